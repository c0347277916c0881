/- The reference's Encode; lentRecord, keptRecord. -/
import Derived.Test.YtjmmdpnphafdfaaX7
namespace Go.Proofs.Ytjmmdpnphafdfaa
set_option linter.unusedVariables false
set_option linter.unusedSimpArgs false
open Go.ChangeShapes Go.WideShapes Go.ChangeAt Go.RowKit Go.Deep Go.Proofs.YtjmmdpnphafdfaaW.PrintLast

attribute [local go_sem] run_store_func
set_option maxRecDepth 100000 in
set_option maxHeartbeats 1000000 in
theorem qencode_u {w : World} {r : RZ} {K V C : SlB} (h : RecIn w r K V C) : Calls Try.prog 16 #[recV r K V C] w (EncU w r) := by
  have nR := blk_new w (.cells (recCells r K V C) TRec (0, 0))
  have bR : Below w.heap.size w (w.alloc (.cells (recCells r K V C) TRec (0, 0))) := (Below.refl _ _).alloc (Nat.le_refl _) _
  unfold recV
  generalize hw1 : w.alloc (.cells (recCells r K V C) TRec (0, 0)) = w1 at *
  have RI := Lib.hid (h.below bR)
  have HX := Lib.hid nR
  have HB := Lib.hid bR
  have SO := Lib.hid (refSound_any (r := r) K V C h.key.1 h.val.1 h.copy.1 w1)
  unfold recCells at hw1 ⊢
  unfold recV recCells at SO
  have HW1 := Lib.hid hw1
  clear h nR bR hw1
  go_enter Try.func16, Try.ntmps16
  go_upto_region 1 with (fail)
  rw [HW1.out]
  have e0 : w1.cell? ⟨w.heap.size, 0, none⟩ = some (.int .i64 r.kind) := cell_blk HX.out 0 rfl
  have e1 : w1.cell? ⟨w.heap.size, 1, none⟩ = some (.int .i64 r.shard) := cell_blk HX.out 1 rfl
  have e2 : w1.cell? ⟨w.heap.size, 2, none⟩ = some (.int .i64 r.epoch) := cell_blk HX.out 2 rfl
  have e3 : w1.cell? ⟨w.heap.size, 3, none⟩ = some (.int .i64 r.peer) := cell_blk HX.out 3 rfl
  have e4 : w1.cell? ⟨w.heap.size, 4, none⟩ = some (.int .i64 r.client) := cell_blk HX.out 4 rfl
  have e5 : w1.cell? ⟨w.heap.size, 5, none⟩ = some (.int .i64 r.seq) := cell_blk HX.out 5 rfl
  have e6 : w1.cell? ⟨w.heap.size, 6, none⟩ = some (.int .i64 r.op.kind) := cell_blk HX.out 6 rfl
  have e7 : w1.cell? ⟨w.heap.size, 7, none⟩ = some (.slice K.1 K.2.1 K.2.2) := cell_blk HX.out 7 rfl
  have e8 : w1.cell? ⟨w.heap.size, 8, none⟩ = some (.slice V.1 V.2.1 V.2.2) := cell_blk HX.out 8 rfl
  have e9 : w1.cell? ⟨w.heap.size, 9, none⟩ = some (.int .i64 r.op.rev) := cell_blk HX.out 9 rfl
  have e10 : w1.cell? ⟨w.heap.size, 10, none⟩ = some (.slice C.1 C.2.1 C.2.2) := cell_blk HX.out 10 rfl
  go_wp2_with (fail)
  refine SO.out.mono ?_
  rintro e w2 ⟨rfl, hb2⟩
  have HB2 := Lib.hid (HB.out.trans (hb2.mono HB.out.size))
  have RI2 := Lib.hid (RI.out.below hb2)
  have HX2 := Lib.hid (blk_below HX.out hb2)
  clear hb2 e0 e1 e2 e3 e4 e5 e6 e7 e8 e9 e10
  by_cases hs : SoundR r
  · rw [decide_eq_true hs]
    have FO := Lib.hid (refForm16_any hs RI2.out.byt RI2.out.key RI2.out.val RI2.out.copy)
    unfold recV recCells at FO
    have h1 := Lib.hid (show encB r = formR r from if_pos hs)
    have h2 := Lib.hid (show encE r = 0 from if_pos hs)
    have e0 : w2.cell? ⟨w.heap.size, 0, none⟩ = some (.int .i64 r.kind) := cell_blk HX2.out 0 rfl
    have e1 : w2.cell? ⟨w.heap.size, 1, none⟩ = some (.int .i64 r.shard) := cell_blk HX2.out 1 rfl
    have e2 : w2.cell? ⟨w.heap.size, 2, none⟩ = some (.int .i64 r.epoch) := cell_blk HX2.out 2 rfl
    have e3 : w2.cell? ⟨w.heap.size, 3, none⟩ = some (.int .i64 r.peer) := cell_blk HX2.out 3 rfl
    have e4 : w2.cell? ⟨w.heap.size, 4, none⟩ = some (.int .i64 r.client) := cell_blk HX2.out 4 rfl
    have e5 : w2.cell? ⟨w.heap.size, 5, none⟩ = some (.int .i64 r.seq) := cell_blk HX2.out 5 rfl
    have e6 : w2.cell? ⟨w.heap.size, 6, none⟩ = some (.int .i64 r.op.kind) := cell_blk HX2.out 6 rfl
    have e7 : w2.cell? ⟨w.heap.size, 7, none⟩ = some (.slice K.1 K.2.1 K.2.2) := cell_blk HX2.out 7 rfl
    have e8 : w2.cell? ⟨w.heap.size, 8, none⟩ = some (.slice V.1 V.2.1 V.2.2) := cell_blk HX2.out 8 rfl
    have e9 : w2.cell? ⟨w.heap.size, 9, none⟩ = some (.int .i64 r.op.rev) := cell_blk HX2.out 9 rfl
    have e10 : w2.cell? ⟨w.heap.size, 10, none⟩ = some (.slice C.1 C.2.1 C.2.2) := cell_blk HX2.out 10 rfl
    go_wp2_with (fail)
    refine FO.out.mono ?_
    rintro e w3 ⟨A, c, rfl, hg, hb3⟩
    have HB3 := Lib.hid (HB2.out.trans (hb3.mono HB2.out.size))
    have HG := Lib.hid hg.srcB
    clear hb3 hg
    go_wp2_with (fail)
    refine bodyPost_ret (v := .tuple #[.slice A (formR r).length c, .int .i64 0]) (by simp [results, Try.results16, go_sem, *]) rfl ?_
    exact ⟨A, c, by rw [h1.out, h2.out], by rw [h1.out]; exact HG.out, HB3.out⟩
  · rw [decide_eq_false hs]
    have h1 := Lib.hid (show encB r = [] from if_neg hs)
    have h2 := Lib.hid (show encE r = 160 from if_neg hs)
    go_wp2_with (fail)
    refine bodyPost_ret (v := .tuple #[.slice none 0 0, .int .i64 160]) (by simp [results, Try.results16, go_sem, *]) rfl ?_
    exact ⟨none, 0, by rw [h1.out, h2.out]; rfl, by rw [h1.out]; exact fun h => absurd rfl h, HB2.out⟩
/-- A record lent. -/
structure LentR (w : World) (N : Nat) (r : RZ) (K V C : SlB) : Prop where
  key : LentB w N K r.op.key
  val : LentB w N V r.op.val
  copy : LentB w N C r.copy
theorem LentR.below {w w' : World} {N : Nat} {r : RZ} {K V C : SlB} (h : LentR w N r K V C) (hb : Below w.heap.size w w') : LentR w' N r K V C := ⟨h.key.below hb, h.val.below hb, h.copy.below hb⟩
theorem LentR.recIn {w : World} {N : Nat} {r : RZ} {K V C : SlB} (h : LentR w N r K V C) (hw : r.Wf) (hb : r.Byt) (hl : r.op.key.length ≤ reach ∧ r.op.val.length ≤ reach ∧ r.copy.length ≤ reach) : RecIn w r K V C :=
  ⟨hw, hb, h.key.slAt, h.val.slAt, h.copy.slAt, hl.1, hl.2.1, hl.2.2⟩
theorem LentB.low {w : World} {N M : Nat} {x : SlB} {p : List Int} (h : LentB w N x p) (hM : M ≤ N) : LentB w M x p := by
  obtain ⟨g, h1, h2, h3⟩ := h
  exact ⟨g, h1, by omega, h3⟩
theorem LentB.other {w w' : World} {N : Nat} {x : SlB} {p : List Int} (h : LentB w N x p) {F : Nat → Prop} (hf : Fr F w w') (hF : ∀ b, N ≤ b → ¬ F b) : LentB w' N x p := by
  obtain ⟨g, h1, h2, h3⟩ := h
  exact ⟨g, h1, h2, h3.moved (hf.block g h3.lt (hF g h2))⟩
set_option maxRecDepth 100000 in
set_option maxHeartbeats 1000000 in
theorem lentRec_any {w : World} {r : RZ} {K V C : SlB} (h : RecIn w r K V C) : Calls Try.prog 18 #[recV r K V C] w fun e w' => ∃ K' V' C', e = .returned (recV r K' V' C') ∧ LentR w' w.heap.size r K' V' C' ∧ Below w.heap.size w w' := by
  obtain ⟨x1, x2⟩ := two_blks w (.cells (recCells r K V C) TRec (0, 0)) (.cells (recCells RZ.none zSl zSl zSl) TRec (0, 0))
  have B1 : Below w.heap.size w ((w.alloc (.cells (recCells r K V C) TRec (0, 0))).alloc (.cells (recCells RZ.none zSl zSl zSl) TRec (0, 0))) := ((Below.refl _ _).alloc (Nat.le_refl _) _).alloc (by simp) _
  have S1 : ((w.alloc (.cells (recCells r K V C) TRec (0, 0))).alloc (.cells (recCells RZ.none zSl zSl zSl) TRec (0, 0))).heap.size = w.heap.size + 2 := by simp
  unfold recV
  generalize hw1 : (w.alloc (.cells (recCells r K V C) TRec (0, 0))).alloc (.cells (recCells RZ.none zSl zSl zSl) TRec (0, 0)) = w1 at *
  have RI := Lib.hid h
  have HB1 := Lib.hid B1
  have HS1 := Lib.hid S1
  have HX := Lib.hid x1
  have HY := Lib.hid x2
  unfold recCells RZ.none OpZ.none zSl at hw1
  unfold recCells
  have HW1 := Lib.hid hw1
  clear h x1 x2 B1 S1 hw1
  go_enter Try.func18, Try.ntmps18
  go_upto_region 1 with (fail)
  rw [HW1.out]
  have hrr : reach = 140737488351232 := rfl
  have HLN := Lib.hid (show r.op.key.length + 2 ≤ 140737488355328 ∧ r.op.val.length + 2 ≤ 140737488355328 ∧ r.copy.length + 2 ≤ 140737488355328 from by have := RI.out.lk; have := RI.out.lv; have := RI.out.lc; omega)
  clear hrr
  have e7 : w1.cell? ⟨w.heap.size, 7, none⟩ = some (.slice K.1 r.op.key.length K.2.2) := by rw [← RI.out.key.1]; exact cell_blk HX.out 7 rfl
  have LE := Lib.hid (lent_any (w := w1) (c0 := K.2.2) (RI.out.key.src.below HB1.out) HLN.out.1)
  go_wp2_with (fail)
  refine LE.out.mono ?_
  rintro e w2 ⟨y1, rfl, L1, hb2⟩
  have X2 := blk_below HX.out hb2
  have Y2 := blk_below HY.out hb2
  have s2 := blk_lt HY.out
  have t2 := HB1.out.size
  have c7 := cell_blk X2 7 rfl
  have f7 := free_blk X2 7
  have X3 : (w2.setCell ⟨w.heap.size, 7, none⟩ (.slice y1.1 y1.2.1 y1.2.2)).heap[w.heap.size]? = some (.cells (recCells r y1 V C) TRec (0, 0)) := setCell_heap w2 w.heap.size 7 (.slice y1.1 y1.2.1 y1.2.2) _ _ _ X2
  have F3 : Fr (fun b => b = w.heap.size) w2 (w2.setCell ⟨w.heap.size, 7, none⟩ (.slice y1.1 y1.2.1 y1.2.2)) := Fr.set (F := fun b => b = w.heap.size) w2 rfl _
  clear e7 LE
  go_upto_region 2 with (fail)
  generalize w2.setCell ⟨w.heap.size, 7, none⟩ (.slice y1.1 y1.2.1 y1.2.2) = w3 at *
  have LH1 := Lib.hid ((L1.low (M := w.heap.size + 2) (by omega)).other F3 fun b hb => by omega)
  clear HX
  have HX := Lib.hid X3
  have HYn := Lib.hid ((F3.block (w.heap.size + 1) (blk_lt Y2) (by omega)).trans Y2)
  clear HY
  have HY := HYn
  clear HYn
  have HBn := Lib.hid ((HB1.out.trans (hb2.mono HB1.out.size)).trans (F3.toBelow (fun b hb => by omega) (by have := HB1.out.size; have := hb2.size; omega)))
  clear HB1
  have HB1 := HBn
  clear HBn
  clear L1 hb2 X2 Y2 s2 t2 c7 f7 X3 F3
  have e8 : w3.cell? ⟨w.heap.size, 8, none⟩ = some (.slice V.1 r.op.val.length V.2.2) := by rw [← RI.out.val.1]; exact cell_blk HX.out 8 rfl
  have LE := Lib.hid (lent_any (w := w3) (c0 := V.2.2) (RI.out.val.src.below HB1.out) HLN.out.2.1)
  go_wp2_with (fail)
  refine LE.out.mono ?_
  rintro e w4 ⟨y2, rfl, L2, hb4⟩
  have X4 := blk_below HX.out hb4
  have Y4 := blk_below HY.out hb4
  have s4 := blk_lt HY.out
  have t4 := HB1.out.size
  have LH1 := Lib.hid (LH1.out.below hb4)
  have c8 := cell_blk X4 8 rfl
  have f8 := free_blk X4 8
  have X5 : (w4.setCell ⟨w.heap.size, 8, none⟩ (.slice y2.1 y2.2.1 y2.2.2)).heap[w.heap.size]? = some (.cells (recCells r y1 y2 C) TRec (0, 0)) := setCell_heap w4 w.heap.size 8 (.slice y2.1 y2.2.1 y2.2.2) _ _ _ X4
  have F5 : Fr (fun b => b = w.heap.size) w4 (w4.setCell ⟨w.heap.size, 8, none⟩ (.slice y2.1 y2.2.1 y2.2.2)) := Fr.set (F := fun b => b = w.heap.size) w4 rfl _
  clear e8 LE
  go_upto_region 3 with (fail)
  generalize w4.setCell ⟨w.heap.size, 8, none⟩ (.slice y2.1 y2.2.1 y2.2.2) = w5 at *
  have LH1 := Lib.hid (LH1.out.other F5 fun b hb => by omega)
  have LH2 := Lib.hid ((L2.low (M := w.heap.size + 2) (by omega)).other F5 fun b hb => by omega)
  clear HX
  have HX := Lib.hid X5
  have HYn := Lib.hid ((F5.block (w.heap.size + 1) (blk_lt Y4) (by omega)).trans Y4)
  clear HY
  have HY := HYn
  clear HYn
  have HBn := Lib.hid ((HB1.out.trans (hb4.mono HB1.out.size)).trans (F5.toBelow (fun b hb => by omega) (by have := HB1.out.size; have := hb4.size; omega)))
  clear HB1
  have HB1 := HBn
  clear HBn
  clear L2 hb4 X4 Y4 s4 t4 c8 f8 X5 F5
  have e10 : w5.cell? ⟨w.heap.size, 10, none⟩ = some (.slice C.1 r.copy.length C.2.2) := by rw [← RI.out.copy.1]; exact cell_blk HX.out 10 rfl
  have LE := Lib.hid (lent_any (w := w5) (c0 := C.2.2) (RI.out.copy.src.below HB1.out) HLN.out.2.2)
  go_wp2_with (fail)
  refine LE.out.mono ?_
  rintro e w6 ⟨y3, rfl, L3, hb6⟩
  have X6 := blk_below HX.out hb6
  have Y6 := blk_below HY.out hb6
  have s6 := blk_lt HY.out
  have t6 := HB1.out.size
  have LH1 := Lib.hid (LH1.out.below hb6)
  have LH2 := Lib.hid (LH2.out.below hb6)
  have c10 := cell_blk X6 10 rfl
  have f10 := free_blk X6 10
  have X7 : (w6.setCell ⟨w.heap.size, 10, none⟩ (.slice y3.1 y3.2.1 y3.2.2)).heap[w.heap.size]? = some (.cells (recCells r y1 y2 y3) TRec (0, 0)) := setCell_heap w6 w.heap.size 10 (.slice y3.1 y3.2.1 y3.2.2) _ _ _ X6
  have F7 : Fr (fun b => b = w.heap.size) w6 (w6.setCell ⟨w.heap.size, 10, none⟩ (.slice y3.1 y3.2.1 y3.2.2)) := Fr.set (F := fun b => b = w.heap.size) w6 rfl _
  clear e10 LE
  go_upto_region 4 with (fail)
  generalize w6.setCell ⟨w.heap.size, 10, none⟩ (.slice y3.1 y3.2.1 y3.2.2) = w7 at *
  have LH1 := Lib.hid (LH1.out.other F7 fun b hb => by omega)
  have LH2 := Lib.hid (LH2.out.other F7 fun b hb => by omega)
  have LH3 := Lib.hid ((L3.low (M := w.heap.size + 2) (by omega)).other F7 fun b hb => by omega)
  clear HX
  have HX := Lib.hid X7
  have HYn := Lib.hid ((F7.block (w.heap.size + 1) (blk_lt Y6) (by omega)).trans Y6)
  clear HY
  have HY := HYn
  clear HYn
  have HBn := Lib.hid ((HB1.out.trans (hb6.mono HB1.out.size)).trans (F7.toBelow (fun b hb => by omega) (by have := HB1.out.size; have := hb6.size; omega)))
  clear HB1
  have HB1 := HBn
  clear HBn
  clear L3 hb6 X6 Y6 s6 t6 c10 f10 X7 F7
  have e0 : w7.cell? ⟨w.heap.size, 0, none⟩ = some (.int .i64 r.kind) := cell_blk HX.out 0 rfl
  have e1 : w7.cell? ⟨w.heap.size, 1, none⟩ = some (.int .i64 r.shard) := cell_blk HX.out 1 rfl
  have e2 : w7.cell? ⟨w.heap.size, 2, none⟩ = some (.int .i64 r.epoch) := cell_blk HX.out 2 rfl
  have e3 : w7.cell? ⟨w.heap.size, 3, none⟩ = some (.int .i64 r.peer) := cell_blk HX.out 3 rfl
  have e4 : w7.cell? ⟨w.heap.size, 4, none⟩ = some (.int .i64 r.client) := cell_blk HX.out 4 rfl
  have e5 : w7.cell? ⟨w.heap.size, 5, none⟩ = some (.int .i64 r.seq) := cell_blk HX.out 5 rfl
  have e6 : w7.cell? ⟨w.heap.size, 6, none⟩ = some (.int .i64 r.op.kind) := cell_blk HX.out 6 rfl
  have e7 : w7.cell? ⟨w.heap.size, 7, none⟩ = some (.slice y1.1 y1.2.1 y1.2.2) := cell_blk HX.out 7 rfl
  have e8 : w7.cell? ⟨w.heap.size, 8, none⟩ = some (.slice y2.1 y2.2.1 y2.2.2) := cell_blk HX.out 8 rfl
  have e9 : w7.cell? ⟨w.heap.size, 9, none⟩ = some (.int .i64 r.op.rev) := cell_blk HX.out 9 rfl
  have e10 : w7.cell? ⟨w.heap.size, 10, none⟩ = some (.slice y3.1 y3.2.1 y3.2.2) := cell_blk HX.out 10 rfl
  have t0 : w7.cell? ⟨w.heap.size + 1, 0, none⟩ = some (.int .i64 0) := cell_blk HY.out 0 rfl
  have f0 := free_blk HY.out 0
  have t1 : w7.cell? ⟨w.heap.size + 1, 1, none⟩ = some (.int .i64 0) := cell_blk HY.out 1 rfl
  have f1 := free_blk HY.out 1
  have t2 : w7.cell? ⟨w.heap.size + 1, 2, none⟩ = some (.int .i64 0) := cell_blk HY.out 2 rfl
  have f2 := free_blk HY.out 2
  have t3 : w7.cell? ⟨w.heap.size + 1, 3, none⟩ = some (.int .i64 0) := cell_blk HY.out 3 rfl
  have f3 := free_blk HY.out 3
  have t4 : w7.cell? ⟨w.heap.size + 1, 4, none⟩ = some (.int .i64 0) := cell_blk HY.out 4 rfl
  have f4 := free_blk HY.out 4
  have t5 : w7.cell? ⟨w.heap.size + 1, 5, none⟩ = some (.int .i64 0) := cell_blk HY.out 5 rfl
  have f5 := free_blk HY.out 5
  have t6 : w7.cell? ⟨w.heap.size + 1, 6, none⟩ = some (.int .i64 0) := cell_blk HY.out 6 rfl
  have f6 := free_blk HY.out 6
  have t7 : w7.cell? ⟨w.heap.size + 1, 7, none⟩ = some (.slice none 0 0) := cell_blk HY.out 7 rfl
  have f7 := free_blk HY.out 7
  have t8 : w7.cell? ⟨w.heap.size + 1, 8, none⟩ = some (.slice none 0 0) := cell_blk HY.out 8 rfl
  have f8 := free_blk HY.out 8
  have t9 : w7.cell? ⟨w.heap.size + 1, 9, none⟩ = some (.int .i64 0) := cell_blk HY.out 9 rfl
  have f9 := free_blk HY.out 9
  have t10 : w7.cell? ⟨w.heap.size + 1, 10, none⟩ = some (.slice none 0 0) := cell_blk HY.out 10 rfl
  have f10 := free_blk HY.out 10
  go_wp2_with (fail)
  refine bodyPost_ret (v := recV r y1 y2 y3) ?_ rfl ?_
  · unfold recV recCells
    simp [results, Try.results18, go_sem, *]
  · have FR := set11_fr w7 (w.heap.size + 1) (.int .i64 r.kind) (.int .i64 r.shard) (.int .i64 r.epoch) (.int .i64 r.peer) (.int .i64 r.client) (.int .i64 r.seq) (.int .i64 r.op.kind) (.slice y1.1 y1.2.1 y1.2.2) (.slice y2.1 y2.2.1 y2.2.2) (.int .i64 r.op.rev) (.slice y3.1 y3.2.1 y3.2.2)
    exact ⟨y1, y2, y3, rfl, ⟨(LH1.out.other FR fun b hb => by omega).low (by omega), (LH2.out.other FR fun b hb => by omega).low (by omega), (LH3.out.other FR fun b hb => by omega).low (by omega)⟩, HB1.out.trans (FR.toBelow (fun b hb => by omega) HB1.out.size)⟩
end Go.Proofs.Ytjmmdpnphafdfaa
