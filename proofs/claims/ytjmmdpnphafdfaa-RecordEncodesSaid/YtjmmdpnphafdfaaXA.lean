/- RecordEncodes: Encode, Size and Sound answer as the reference does. -/
import Derived.Test.YtjmmdpnphafdfaaX9
namespace Go.Proofs.Ytjmmdpnphafdfaa
set_option linter.unusedVariables false
set_option linter.unusedSimpArgs false
open Go.ChangeShapes Go.WideShapes Go.ChangeAt Go.RowKit Go.Deep Go.Proofs.YtjmmdpnphafdfaaW.PrintLast

set_option maxRecDepth 100000 in
set_option maxHeartbeats 2000000 in
theorem keptRec_any {w : World} {N : Nat} {r : RZ} {K V C K' V' C' : SlB} (hL : LentR w N r K' V' C') (h : RecIn w r K V C) :
    Calls Try.prog 22 #[recV r K' V' C', recV r K V C] w fun e w' => e = .returned (.bool true) ∧ Below w.heap.size w w' := by
  obtain ⟨x1, x2⟩ := two_blks w (.cells (recCells r K' V' C') TRec (0, 0)) (.cells (recCells r K V C) TRec (0, 0))
  have B1 : Below w.heap.size w ((w.alloc (.cells (recCells r K' V' C') TRec (0, 0))).alloc (.cells (recCells r K V C) TRec (0, 0))) := ((Below.refl _ _).alloc (Nat.le_refl _) _).alloc (by simp) _
  unfold recV
  generalize hw1 : (w.alloc (.cells (recCells r K' V' C') TRec (0, 0))).alloc (.cells (recCells r K V C) TRec (0, 0)) = w1 at *
  have hrr : reach = 140737488351232 := rfl
  have HLN := Lib.hid (show r.op.key.length + 2 ≤ 140737488355328 ∧ r.op.val.length + 2 ≤ 140737488355328 ∧ r.copy.length + 2 ≤ 140737488355328 from by have := h.lk; have := h.lv; have := h.lc; omega)
  have LI := Lib.hid (hL.below B1)
  have RI := Lib.hid (h.below B1)
  have HB := Lib.hid B1
  have HX := Lib.hid x1
  have HY := Lib.hid x2
  unfold recCells at hw1 ⊢
  have HW1 := Lib.hid hw1
  clear h hL x1 x2 B1 hw1 hrr
  go_enter Try.func22, Try.ntmps22
  go_upto_region 1 with (fail)
  rw [HW1.out]
  have e7 : w1.cell? ⟨w.heap.size, 7, none⟩ = some (.slice K'.1 K'.2.1 K'.2.2) := cell_blk HX.out 7 rfl
  have d7 : w1.cell? ⟨w.heap.size + 1, 7, none⟩ = some (.slice K.1 r.op.key.length K.2.2) := by rw [← RI.out.key.1]; exact cell_blk HY.out 7 rfl
  have KE := Lib.hid (kept_any (w := w1) (c0 := K.2.2) LI.out.key RI.out.key.src HLN.out.1)
  go_wp2_with (fail)
  refine KE.out.mono ?_
  rintro e w2 ⟨rfl, hb⟩
  clear KE e7 d7
  have HB := Lib.hid (HB.out.trans (hb.mono HB.out.size))
  have HX := Lib.hid (blk_below HX.out hb)
  have HY := Lib.hid (blk_below HY.out hb)
  have LI := Lib.hid (LI.out.below hb)
  have RI := Lib.hid (RI.out.below hb)
  clear hb
  have e8 : w2.cell? ⟨w.heap.size, 8, none⟩ = some (.slice V'.1 V'.2.1 V'.2.2) := cell_blk HX.out 8 rfl
  have d8 : w2.cell? ⟨w.heap.size + 1, 8, none⟩ = some (.slice V.1 r.op.val.length V.2.2) := by rw [← RI.out.val.1]; exact cell_blk HY.out 8 rfl
  have KE := Lib.hid (kept_any (w := w2) (c0 := V.2.2) LI.out.val RI.out.val.src HLN.out.2.1)
  go_wp2_with (fail)
  refine KE.out.mono ?_
  rintro e w3 ⟨rfl, hb⟩
  clear KE e8 d8
  have HB := Lib.hid (HB.out.trans (hb.mono HB.out.size))
  have HX := Lib.hid (blk_below HX.out hb)
  have HY := Lib.hid (blk_below HY.out hb)
  have LI := Lib.hid (LI.out.below hb)
  have RI := Lib.hid (RI.out.below hb)
  clear hb
  have e10 : w3.cell? ⟨w.heap.size, 10, none⟩ = some (.slice C'.1 C'.2.1 C'.2.2) := cell_blk HX.out 10 rfl
  have d10 : w3.cell? ⟨w.heap.size + 1, 10, none⟩ = some (.slice C.1 r.copy.length C.2.2) := by rw [← RI.out.copy.1]; exact cell_blk HY.out 10 rfl
  have KE := Lib.hid (kept_any (w := w3) (c0 := C.2.2) LI.out.copy RI.out.copy.src HLN.out.2.2)
  go_wp2_with (fail)
  refine KE.out.mono ?_
  rintro e w4 ⟨rfl, hb⟩
  clear KE e10 d10
  have HB := Lib.hid (HB.out.trans (hb.mono HB.out.size))
  have HX := Lib.hid (blk_below HX.out hb)
  have HY := Lib.hid (blk_below HY.out hb)
  have LI := Lib.hid (LI.out.below hb)
  have RI := Lib.hid (RI.out.below hb)
  clear hb
  go_wp2_with (fail)
  go_ret
  exact ⟨rfl, HB.out⟩
theorem sizeR_eq (r : RZ) : sizeR r = (((encB r).length : Int), encE r) := by
  unfold sizeR encB encE
  by_cases h : SoundR r
  · rw [if_pos h, if_pos h, if_pos h]
  · rw [if_neg h, if_neg h, if_neg h]; rfl
set_option maxRecDepth 100000 in
set_option maxHeartbeats 4000000 in
theorem encodes_1 {w : World} {r : RZ} {K V C : SlB} (h : RecIn w r K V C) :
    Calls Try.prog 4 #[recV r K V C] w fun e w' => e = .returned (.bool true) ∧ Below w.heap.size w w' := by
  have nR := blk_new w (.cells (recCells r K V C) TRec (0, 0))
  have bR : Below w.heap.size w (w.alloc (.cells (recCells r K V C) TRec (0, 0))) := (Below.refl _ _).alloc (Nat.le_refl _) _
  have hwf := h.wf
  have hby := h.byt
  have hln := And.intro h.lk (And.intro h.lv h.lc)
  unfold recV
  generalize hw1 : w.alloc (.cells (recCells r K V C) TRec (0, 0)) = w1 at *
  have RI := Lib.hid (h.below bR)
  have HX := Lib.hid nR
  have HB := Lib.hid bR
  have HWF := Lib.hid hwf
  have HBY := Lib.hid hby
  have HLN := Lib.hid hln
  unfold recCells at hw1 ⊢
  have HW1 := Lib.hid hw1
  clear h nR bR hw1 hwf hby hln
  obtain ⟨ev, hev⟩ : ∃ x, encE r = x := ⟨_, rfl⟩
  obtain ⟨sb, hsb⟩ : ∃ x, decide (SoundR r) = x := ⟨_, rfl⟩
  obtain ⟨bs, hbs⟩ : ∃ x, encB r = x := ⟨_, rfl⟩
  have hsz : sizeR r = ((bs.length : Int), ev) := by rw [sizeR_eq, hbs, hev]
  have HEV := Lib.hid hev
  have HSB := Lib.hid hsb
  have HBS := Lib.hid hbs
  have HSZ := Lib.hid hsz
  have HBL := Lib.hid (show bs.length ≤ 300000 by rw [← hbs]; exact encB_len r)
  clear hev hsb hbs hsz
  go_enter Try.func4, Try.ntmps4
  go_upto_region 1 with (fail)
  rw [HW1.out]
  have e0 : w1.cell? ⟨w.heap.size, 0, none⟩ = some (.int .i64 r.kind) := cell_blk HX.out 0 rfl
  have e1 : w1.cell? ⟨w.heap.size, 1, none⟩ = some (.int .i64 r.shard) := cell_blk HX.out 1 rfl
  have e2 : w1.cell? ⟨w.heap.size, 2, none⟩ = some (.int .i64 r.epoch) := cell_blk HX.out 2 rfl
  have e3 : w1.cell? ⟨w.heap.size, 3, none⟩ = some (.int .i64 r.peer) := cell_blk HX.out 3 rfl
  have e4 : w1.cell? ⟨w.heap.size, 4, none⟩ = some (.int .i64 r.client) := cell_blk HX.out 4 rfl
  have e5 : w1.cell? ⟨w.heap.size, 5, none⟩ = some (.int .i64 r.seq) := cell_blk HX.out 5 rfl
  have e6 : w1.cell? ⟨w.heap.size, 6, none⟩ = some (.int .i64 r.op.kind) := cell_blk HX.out 6 rfl
  have e7 : w1.cell? ⟨w.heap.size, 7, none⟩ = some (.slice K.1 K.2.1 K.2.2) := cell_blk HX.out 7 rfl
  have e8 : w1.cell? ⟨w.heap.size, 8, none⟩ = some (.slice V.1 V.2.1 V.2.2) := cell_blk HX.out 8 rfl
  have e9 : w1.cell? ⟨w.heap.size, 9, none⟩ = some (.int .i64 r.op.rev) := cell_blk HX.out 9 rfl
  have e10 : w1.cell? ⟨w.heap.size, 10, none⟩ = some (.slice C.1 C.2.1 C.2.2) := cell_blk HX.out 10 rfl
  have CA := Lib.hid (qencode_u RI.out)
  unfold recV recCells at CA
  go_wp2_with (fail)
  refine CA.out.mono ?_
  rintro e w2 ⟨A1, c1, rfl, S1, hb2⟩
  rw [HBS.out] at S1
  rw [HBS.out, HEV.out]
  clear e0 e1 e2 e3 e4 e5 e6 e7 e8 e9 e10
  have HB := Lib.hid (HB.out.trans (hb2.mono HB.out.size))
  have HX := Lib.hid (blk_below HX.out hb2)
  have RI := Lib.hid (RI.out.below hb2)
  have HS1 := Lib.hid S1
  clear CA hb2 S1
  have e0 : w2.cell? ⟨w.heap.size, 0, none⟩ = some (.int .i64 r.kind) := cell_blk HX.out 0 rfl
  have e1 : w2.cell? ⟨w.heap.size, 1, none⟩ = some (.int .i64 r.shard) := cell_blk HX.out 1 rfl
  have e2 : w2.cell? ⟨w.heap.size, 2, none⟩ = some (.int .i64 r.epoch) := cell_blk HX.out 2 rfl
  have e3 : w2.cell? ⟨w.heap.size, 3, none⟩ = some (.int .i64 r.peer) := cell_blk HX.out 3 rfl
  have e4 : w2.cell? ⟨w.heap.size, 4, none⟩ = some (.int .i64 r.client) := cell_blk HX.out 4 rfl
  have e5 : w2.cell? ⟨w.heap.size, 5, none⟩ = some (.int .i64 r.seq) := cell_blk HX.out 5 rfl
  have e6 : w2.cell? ⟨w.heap.size, 6, none⟩ = some (.int .i64 r.op.kind) := cell_blk HX.out 6 rfl
  have e7 : w2.cell? ⟨w.heap.size, 7, none⟩ = some (.slice K.1 K.2.1 K.2.2) := cell_blk HX.out 7 rfl
  have e8 : w2.cell? ⟨w.heap.size, 8, none⟩ = some (.slice V.1 V.2.1 V.2.2) := cell_blk HX.out 8 rfl
  have e9 : w2.cell? ⟨w.heap.size, 9, none⟩ = some (.int .i64 r.op.rev) := cell_blk HX.out 9 rfl
  have e10 : w2.cell? ⟨w.heap.size, 10, none⟩ = some (.slice C.1 C.2.1 C.2.2) := cell_blk HX.out 10 rfl
  have CA := Lib.hid (refSound_any (r := r) K V C RI.out.key.1 RI.out.val.1 RI.out.copy.1 w2)
  unfold recV recCells at CA
  rw [HSB.out] at CA
  go_wp2_with (fail)
  refine CA.out.mono ?_
  rintro e w3 ⟨rfl, hb3⟩
  clear e0 e1 e2 e3 e4 e5 e6 e7 e8 e9 e10
  have HB := Lib.hid (HB.out.trans (hb3.mono HB.out.size))
  have HX := Lib.hid (blk_below HX.out hb3)
  have RI := Lib.hid (RI.out.below hb3)
  have HS1 := Lib.hid (HS1.out.below hb3)
  clear CA hb3
  have e0 : w3.cell? ⟨w.heap.size, 0, none⟩ = some (.int .i64 r.kind) := cell_blk HX.out 0 rfl
  have e1 : w3.cell? ⟨w.heap.size, 1, none⟩ = some (.int .i64 r.shard) := cell_blk HX.out 1 rfl
  have e2 : w3.cell? ⟨w.heap.size, 2, none⟩ = some (.int .i64 r.epoch) := cell_blk HX.out 2 rfl
  have e3 : w3.cell? ⟨w.heap.size, 3, none⟩ = some (.int .i64 r.peer) := cell_blk HX.out 3 rfl
  have e4 : w3.cell? ⟨w.heap.size, 4, none⟩ = some (.int .i64 r.client) := cell_blk HX.out 4 rfl
  have e5 : w3.cell? ⟨w.heap.size, 5, none⟩ = some (.int .i64 r.seq) := cell_blk HX.out 5 rfl
  have e6 : w3.cell? ⟨w.heap.size, 6, none⟩ = some (.int .i64 r.op.kind) := cell_blk HX.out 6 rfl
  have e7 : w3.cell? ⟨w.heap.size, 7, none⟩ = some (.slice K.1 K.2.1 K.2.2) := cell_blk HX.out 7 rfl
  have e8 : w3.cell? ⟨w.heap.size, 8, none⟩ = some (.slice V.1 V.2.1 V.2.2) := cell_blk HX.out 8 rfl
  have e9 : w3.cell? ⟨w.heap.size, 9, none⟩ = some (.int .i64 r.op.rev) := cell_blk HX.out 9 rfl
  have e10 : w3.cell? ⟨w.heap.size, 10, none⟩ = some (.slice C.1 C.2.1 C.2.2) := cell_blk HX.out 10 rfl
  have CA := Lib.hid (lentRec_any RI.out)
  unfold recV recCells at CA
  go_wp2_with (fail)
  refine CA.out.mono ?_
  rintro e w4 ⟨K', V', C', rfl, LR, hb4⟩
  clear e0 e1 e2 e3 e4 e5 e6 e7 e8 e9 e10
  have n4 := blk_new w4 (.cells (recCells r K' V' C') TRec (0, 0))
  have b4 : Below w4.heap.size w4 (w4.alloc (.cells (recCells r K' V' C') TRec (0, 0))) := (Below.refl _ _).alloc (Nat.le_refl _) _
  generalize hw5 : w4.alloc (.cells (recCells r K' V' C') TRec (0, 0)) = w5 at *
  have hb5 := hb4.trans (b4.mono hb4.size)
  have HB := Lib.hid (HB.out.trans (hb5.mono HB.out.size))
  have HX := Lib.hid (blk_below HX.out hb5)
  have RI := Lib.hid (RI.out.below hb5)
  have HS1 := Lib.hid (HS1.out.below hb5)
  have LI := Lib.hid (LR.below b4)
  have HY := Lib.hid n4
  unfold recCells at hw5
  have HW5 := Lib.hid hw5
  clear CA hb4 n4 b4 hb5 hw5 LR
  go_upto_region 4 with (fail)
  rw [HW5.out]
  have d0 : w5.cell? ⟨w4.heap.size, 0, none⟩ = some (.int .i64 r.kind) := cell_blk HY.out 0 rfl
  have d1 : w5.cell? ⟨w4.heap.size, 1, none⟩ = some (.int .i64 r.shard) := cell_blk HY.out 1 rfl
  have d2 : w5.cell? ⟨w4.heap.size, 2, none⟩ = some (.int .i64 r.epoch) := cell_blk HY.out 2 rfl
  have d3 : w5.cell? ⟨w4.heap.size, 3, none⟩ = some (.int .i64 r.peer) := cell_blk HY.out 3 rfl
  have d4 : w5.cell? ⟨w4.heap.size, 4, none⟩ = some (.int .i64 r.client) := cell_blk HY.out 4 rfl
  have d5 : w5.cell? ⟨w4.heap.size, 5, none⟩ = some (.int .i64 r.seq) := cell_blk HY.out 5 rfl
  have d6 : w5.cell? ⟨w4.heap.size, 6, none⟩ = some (.int .i64 r.op.kind) := cell_blk HY.out 6 rfl
  have d7 : w5.cell? ⟨w4.heap.size, 7, none⟩ = some (.slice K'.1 K'.2.1 K'.2.2) := cell_blk HY.out 7 rfl
  have d8 : w5.cell? ⟨w4.heap.size, 8, none⟩ = some (.slice V'.1 V'.2.1 V'.2.2) := cell_blk HY.out 8 rfl
  have d9 : w5.cell? ⟨w4.heap.size, 9, none⟩ = some (.int .i64 r.op.rev) := cell_blk HY.out 9 rfl
  have d10 : w5.cell? ⟨w4.heap.size, 10, none⟩ = some (.slice C'.1 C'.2.1 C'.2.2) := cell_blk HY.out 10 rfl
  have CA := Lib.hid (encode_u (LI.out.recIn HWF.out HBY.out HLN.out))
  unfold recV recCells at CA
  go_wp2_with (fail)
  refine CA.out.mono ?_
  rintro e w6 ⟨A2, c2, rfl, S2, hb6⟩
  rw [HBS.out] at S2
  rw [HBS.out, HEV.out]
  clear d0 d1 d2 d3 d4 d5 d6 d7 d8 d9 d10
  have HB := Lib.hid (HB.out.trans (hb6.mono HB.out.size))
  have HX := Lib.hid (blk_below HX.out hb6)
  have HY := Lib.hid (blk_below HY.out hb6)
  have RI := Lib.hid (RI.out.below hb6)
  have LI := Lib.hid (LI.out.below hb6)
  have HS1 := Lib.hid (HS1.out.below hb6)
  have HS2 := Lib.hid S2
  clear CA hb6 S2
  have d0 : w6.cell? ⟨w4.heap.size, 0, none⟩ = some (.int .i64 r.kind) := cell_blk HY.out 0 rfl
  have d1 : w6.cell? ⟨w4.heap.size, 1, none⟩ = some (.int .i64 r.shard) := cell_blk HY.out 1 rfl
  have d2 : w6.cell? ⟨w4.heap.size, 2, none⟩ = some (.int .i64 r.epoch) := cell_blk HY.out 2 rfl
  have d3 : w6.cell? ⟨w4.heap.size, 3, none⟩ = some (.int .i64 r.peer) := cell_blk HY.out 3 rfl
  have d4 : w6.cell? ⟨w4.heap.size, 4, none⟩ = some (.int .i64 r.client) := cell_blk HY.out 4 rfl
  have d5 : w6.cell? ⟨w4.heap.size, 5, none⟩ = some (.int .i64 r.seq) := cell_blk HY.out 5 rfl
  have d6 : w6.cell? ⟨w4.heap.size, 6, none⟩ = some (.int .i64 r.op.kind) := cell_blk HY.out 6 rfl
  have d7 : w6.cell? ⟨w4.heap.size, 7, none⟩ = some (.slice K'.1 K'.2.1 K'.2.2) := cell_blk HY.out 7 rfl
  have d8 : w6.cell? ⟨w4.heap.size, 8, none⟩ = some (.slice V'.1 V'.2.1 V'.2.2) := cell_blk HY.out 8 rfl
  have d9 : w6.cell? ⟨w4.heap.size, 9, none⟩ = some (.int .i64 r.op.rev) := cell_blk HY.out 9 rfl
  have d10 : w6.cell? ⟨w4.heap.size, 10, none⟩ = some (.slice C'.1 C'.2.1 C'.2.2) := cell_blk HY.out 10 rfl
  have CA := Lib.hid (rsize_any HWF.out HBY.out LI.out.key.slAt LI.out.val.slAt LI.out.copy.slAt.1)
  unfold recV recCells at CA
  go_wp2_with (fail)
  refine CA.out.mono ?_
  rintro e w7 ⟨hb7, rfl⟩
  rw [HSZ.out]
  clear d0 d1 d2 d3 d4 d5 d6 d7 d8 d9 d10
  have HB := Lib.hid (HB.out.trans (hb7.mono HB.out.size))
  have HX := Lib.hid (blk_below HX.out hb7)
  have HY := Lib.hid (blk_below HY.out hb7)
  have RI := Lib.hid (RI.out.below hb7)
  have LI := Lib.hid (LI.out.below hb7)
  have HS1 := Lib.hid (HS1.out.below hb7)
  have HS2 := Lib.hid (HS2.out.below hb7)
  clear CA hb7
  have d0 : w7.cell? ⟨w4.heap.size, 0, none⟩ = some (.int .i64 r.kind) := cell_blk HY.out 0 rfl
  have d1 : w7.cell? ⟨w4.heap.size, 1, none⟩ = some (.int .i64 r.shard) := cell_blk HY.out 1 rfl
  have d2 : w7.cell? ⟨w4.heap.size, 2, none⟩ = some (.int .i64 r.epoch) := cell_blk HY.out 2 rfl
  have d3 : w7.cell? ⟨w4.heap.size, 3, none⟩ = some (.int .i64 r.peer) := cell_blk HY.out 3 rfl
  have d4 : w7.cell? ⟨w4.heap.size, 4, none⟩ = some (.int .i64 r.client) := cell_blk HY.out 4 rfl
  have d5 : w7.cell? ⟨w4.heap.size, 5, none⟩ = some (.int .i64 r.seq) := cell_blk HY.out 5 rfl
  have d6 : w7.cell? ⟨w4.heap.size, 6, none⟩ = some (.int .i64 r.op.kind) := cell_blk HY.out 6 rfl
  have d7 : w7.cell? ⟨w4.heap.size, 7, none⟩ = some (.slice K'.1 K'.2.1 K'.2.2) := cell_blk HY.out 7 rfl
  have d8 : w7.cell? ⟨w4.heap.size, 8, none⟩ = some (.slice V'.1 V'.2.1 V'.2.2) := cell_blk HY.out 8 rfl
  have d9 : w7.cell? ⟨w4.heap.size, 9, none⟩ = some (.int .i64 r.op.rev) := cell_blk HY.out 9 rfl
  have d10 : w7.cell? ⟨w4.heap.size, 10, none⟩ = some (.slice C'.1 C'.2.1 C'.2.2) := cell_blk HY.out 10 rfl
  have CA := Lib.hid (sound_any HWF.out K' V' C' LI.out.key.slAt.1 LI.out.val.slAt.1 LI.out.copy.slAt.1 w7)
  rw [soundB_eq, HSB.out] at CA
  unfold recV recCells at CA
  go_wp2_with (fail)
  refine CA.out.mono ?_
  rintro e w8 ⟨rfl, hb8⟩
  clear d0 d1 d2 d3 d4 d5 d6 d7 d8 d9 d10
  have HB := Lib.hid (HB.out.trans (hb8.mono HB.out.size))
  have HX := Lib.hid (blk_below HX.out hb8)
  have HY := Lib.hid (blk_below HY.out hb8)
  have RI := Lib.hid (RI.out.below hb8)
  have LI := Lib.hid (LI.out.below hb8)
  have HS1 := Lib.hid (HS1.out.below hb8)
  have HS2 := Lib.hid (HS2.out.below hb8)
  clear CA hb8
  have e0 : w8.cell? ⟨w.heap.size, 0, none⟩ = some (.int .i64 r.kind) := cell_blk HX.out 0 rfl
  have e1 : w8.cell? ⟨w.heap.size, 1, none⟩ = some (.int .i64 r.shard) := cell_blk HX.out 1 rfl
  have e2 : w8.cell? ⟨w.heap.size, 2, none⟩ = some (.int .i64 r.epoch) := cell_blk HX.out 2 rfl
  have e3 : w8.cell? ⟨w.heap.size, 3, none⟩ = some (.int .i64 r.peer) := cell_blk HX.out 3 rfl
  have e4 : w8.cell? ⟨w.heap.size, 4, none⟩ = some (.int .i64 r.client) := cell_blk HX.out 4 rfl
  have e5 : w8.cell? ⟨w.heap.size, 5, none⟩ = some (.int .i64 r.seq) := cell_blk HX.out 5 rfl
  have e6 : w8.cell? ⟨w.heap.size, 6, none⟩ = some (.int .i64 r.op.kind) := cell_blk HX.out 6 rfl
  have e7 : w8.cell? ⟨w.heap.size, 7, none⟩ = some (.slice K.1 K.2.1 K.2.2) := cell_blk HX.out 7 rfl
  have e8 : w8.cell? ⟨w.heap.size, 8, none⟩ = some (.slice V.1 V.2.1 V.2.2) := cell_blk HX.out 8 rfl
  have e9 : w8.cell? ⟨w.heap.size, 9, none⟩ = some (.int .i64 r.op.rev) := cell_blk HX.out 9 rfl
  have e10 : w8.cell? ⟨w.heap.size, 10, none⟩ = some (.slice C.1 C.2.1 C.2.2) := cell_blk HX.out 10 rfl
  have d0 : w8.cell? ⟨w4.heap.size, 0, none⟩ = some (.int .i64 r.kind) := cell_blk HY.out 0 rfl
  have d1 : w8.cell? ⟨w4.heap.size, 1, none⟩ = some (.int .i64 r.shard) := cell_blk HY.out 1 rfl
  have d2 : w8.cell? ⟨w4.heap.size, 2, none⟩ = some (.int .i64 r.epoch) := cell_blk HY.out 2 rfl
  have d3 : w8.cell? ⟨w4.heap.size, 3, none⟩ = some (.int .i64 r.peer) := cell_blk HY.out 3 rfl
  have d4 : w8.cell? ⟨w4.heap.size, 4, none⟩ = some (.int .i64 r.client) := cell_blk HY.out 4 rfl
  have d5 : w8.cell? ⟨w4.heap.size, 5, none⟩ = some (.int .i64 r.seq) := cell_blk HY.out 5 rfl
  have d6 : w8.cell? ⟨w4.heap.size, 6, none⟩ = some (.int .i64 r.op.kind) := cell_blk HY.out 6 rfl
  have d7 : w8.cell? ⟨w4.heap.size, 7, none⟩ = some (.slice K'.1 K'.2.1 K'.2.2) := cell_blk HY.out 7 rfl
  have d8 : w8.cell? ⟨w4.heap.size, 8, none⟩ = some (.slice V'.1 V'.2.1 V'.2.2) := cell_blk HY.out 8 rfl
  have d9 : w8.cell? ⟨w4.heap.size, 9, none⟩ = some (.int .i64 r.op.rev) := cell_blk HY.out 9 rfl
  have d10 : w8.cell? ⟨w4.heap.size, 10, none⟩ = some (.slice C'.1 C'.2.1 C'.2.2) := cell_blk HY.out 10 rfl
  have CA := Lib.hid (keptRec_any LI.out RI.out)
  unfold recV recCells at CA
  go_wp2_with (fail)
  refine CA.out.mono ?_
  rintro e w9 ⟨rfl, hb9⟩
  clear d0 d1 d2 d3 d4 d5 d6 d7 d8 d9 d10
  clear e0 e1 e2 e3 e4 e5 e6 e7 e8 e9 e10
  have HB := Lib.hid (HB.out.trans (hb9.mono HB.out.size))
  have SM := Lib.hid (same_any (c := c1) (c' := c2) (HS1.out.below hb9) (HS2.out.below hb9) (by have := HBL.out; omega) (by have := HBL.out; omega))
  rw [decide_eq_true rfl] at SM
  clear CA hb9
  go_wp2_with (fail)
  refine SM.out.mono ?_
  rintro e wa ⟨rfl, hba⟩
  have HB := Lib.hid (HB.out.trans (hba.mono HB.out.size))
  clear SM hba
  go_wp2_with (fail)
  go_ret
  exact ⟨rfl, HB.out⟩
theorem RecordEncodes_walk (w : World) (cs : Array Value) (x : _) (hx : RdRec.rd w x cs.toList) :
    Calls Try.prog 4 #[.agg cs] w fun e w' => e = .returned (.bool true) ∧ Below w.heap.size w w' := by
  obtain ⟨r, K, V, C, hv, h⟩ := rec_of hx
  rw [hv]
  exact encodes_1 h
namespace recordEncodes
open Go.ChangeShapes Go.WideShapes Go.ChangeAt Go.RowKit
open Go.ChangeMaps (open_string shut_string)
theorem own : ownKnob Try.prog.godebug = none := by kernel_rfl
theorem laidOut : laidOutB Try.prog = true := by kernel_rfl
set_option maxRecDepth 100000 in
theorem lifted (os : Os) (started : os.Started) (H : Type) (enc : TypeId × Value → H) :
    ReturnsInHanded {} Try.checked os 4 .any (Rows.recordEncodesSpec.pre6 enc Try.prog Try.f4 Rows.recordEncodesRow.domain false) (Rows.recordEncodesSpec.post enc Try.prog Try.f4 false true false false) := by
  refine returnsInHanded_of_change_sized (C := Try.checked) own started (by kernel_rfl) Try.func4
    (ChangeSpec.witness6 (enc := enc) (C := Try.checked) false ⟨#[], #[.agg #[.int .i64 0, .int .i64 0, .int .i64 0, .int .i64 0, .int .i64 0, .int .i64 0, .int .i64 0, .slice none 0 0, .slice none 0 0, .int .i64 0, .slice none 0 0]], []⟩ 8 (by kernel_rfl) (by kernel_rfl) (by kernel_rfl) (by kernel_rfl)) ?_
  intro W base args ds gs before hval0 hW hcnd hsz0 _
  have hsz : (DataW.weightsEach Try.prog (Try.f4.params.toList ++ Rows.recordEncodesSpec.plain.varTypes Try.prog) (ds ++ gs)).all (· ≤ reachBytes) = true := hsz0
  have hval : ∀ (j : Nat) t v, Try.f4.params[j]? = some t → args[j]? = some v → Value.okWide Try.prog W .any base t v := hval0
  have hW' := hW
  obtain ⟨p, q, hA0, hV, rfl, hfz, hnd⟩ := hW
  have hA : DataW.TrodAll enc Try.prog W 0 (fun _ => true) true Try.f4.params.toList args.toList ds p := hA0
  rw [Try.params4] at hA hval hsz
  obtain ⟨v0, vs0, d0, ds0, p0, q0, hargs, rfl, rfl, h0, r0⟩ := trodAll_cons hA
  obtain ⟨rfl, rfl, rfl⟩ := trodAll_nil r0
  obtain rfl : args = #[v0] := by cases args; simp_all
  obtain ⟨rfl, rfl⟩ := trodVars_none hV
  obtain ⟨a0, rfl, z0⟩ := okWide_struct Try.underlying26 (hval 0 26 v0 rfl rfl)
  have k0 := h0
  have lt0 : ∀ x ∈ p0, x.block < W.heap.size := by obtain ⟨m, hm⟩ := k0; exact DataW.trod_lt m _ _ _ hm
  obtain ⟨xs0, hx0⟩ := opened_struct (opens_rec W) h0 (weights_at hsz (j := 0) (t := 26) rfl rfl)
  clear hA0 hval0 hsz0 hsz
  refine (RecordEncodes_walk W a0 xs0 hx0).mono fun e W' ⟨he, bel⟩ => ?_
  subst he
  exact ⟨_, rfl, _, _, _, [], _, [], hW', trodAll_mk1 (shut_bool Try.underlying4 _), (trodAll_cons_mk (Below.trod laidOut (by kernel_rfl) (of_decide_eq_true (by kernel_rfl)) k0 bel lt0) trodAll_mk0), rfl, bel.frame _, fun h => by cases h⟩
theorem over : Rows.recordEncodesRow.holds Try.pinned (OpenSpec.ofChange Rows.recordEncodesSpec) :=
  OpenClaim.holds_of_wide 4 Try.f4 rfl rfl rfl rfl rfl rfl rfl ⟨rfl, rfl, rfl, rfl, rfl⟩ rfl rfl rfl rfl rfl (by kernel_rfl) Try.func4 (by kernel_rfl)
    (of_decide_eq_true (by kernel_rfl)) (by unfold Func.isWrapper; first | (rw [if_pos (by decide +kernel)]; kernel_rfl) | (rw [if_neg (by decide +kernel)]; exact ⟨rfl, rfl⟩))
    (fun os started H enc _ => lifted os started H enc)
theorem proved : Rows.RecordEncodesSaid := over
end recordEncodes
theorem recordEncodes_holds : Rows.RecordEncodesSaid := recordEncodes.proved
#print axioms recordEncodes_holds
end Go.Proofs.Ytjmmdpnphafdfaa
