/- RecordOwn: nothing that was handed in is kept; what is answered is new memory. -/
import Derived.Test.YtjmmdpnphafdfaaXC
namespace Go.Proofs.Ytjmmdpnphafdfaa
set_option linter.unusedVariables false
set_option linter.unusedSimpArgs false
open Go.ChangeShapes Go.WideShapes Go.ChangeAt Go.RowKit Go.Deep Go.Proofs.YtjmmdpnphafdfaaW.PrintLast

set_option maxRecDepth 100000 in
set_option maxHeartbeats 16000000 in
theorem own_1 {w : World} {r q : RZ} {K V C K' V' C' : SlB} (h : RecIn w r K V C) (h' : RecIn w q K' V' C') :
    Calls Try.prog 10 #[recV r K V C, recV q K' V' C'] w fun e w' => e = .returned (.bool true) ∧ Below w.heap.size w w' := by
  obtain ⟨x1, x2⟩ := two_blks w (.cells (recCells r K V C) TRec (0, 0)) (.cells (recCells q K' V' C') TRec (0, 0))
  have B1 : Below w.heap.size w ((w.alloc (.cells (recCells r K V C) TRec (0, 0))).alloc (.cells (recCells q K' V' C') TRec (0, 0))) := ((Below.refl _ _).alloc (Nat.le_refl _) _).alloc (by simp) _
  have S1 : ((w.alloc (.cells (recCells r K V C) TRec (0, 0))).alloc (.cells (recCells q K' V' C') TRec (0, 0))).heap.size = w.heap.size + 2 := by simp
  unfold recV
  generalize hw1 : (w.alloc (.cells (recCells r K V C) TRec (0, 0))).alloc (.cells (recCells q K' V' C') TRec (0, 0)) = w1 at *
  have HH := Lib.hid h
  have HH' := Lib.hid h'
  have HB := Lib.hid B1
  have HX := Lib.hid x1
  have HQ := Lib.hid x2
  have Z0 := Lib.hid (Nat.le_of_eq S1.symm)
  have AW := Lib.hid (awake_any w1)
  unfold recCells at hw1 ⊢
  have HW1 := Lib.hid hw1
  clear h h' x1 x2 B1 S1 hw1
  go_enter Try.func10, Try.ntmps10
  go_upto_region 1 with (fail)
  rw [HW1.out]
  go_wp2_with (fail)
  refine AW.out.mono ?_
  rintro e w2 ⟨rfl, hb⟩
  clear AW
  have Z1 := Lib.hid hb.size
  have HX := Lib.hid (blk_below HX.out hb)
  have HQ := Lib.hid (blk_below HQ.out hb)
  have HB := Lib.hid (HB.out.trans (hb.mono HB.out.size))
  clear hb
  have e0 : w2.cell? ⟨w.heap.size, 0, none⟩ = some (.int .i64 r.kind) := cell_blk HX.out 0 rfl
  have e1 : w2.cell? ⟨w.heap.size, 1, none⟩ = some (.int .i64 r.shard) := cell_blk HX.out 1 rfl
  have e2 : w2.cell? ⟨w.heap.size, 2, none⟩ = some (.int .i64 r.epoch) := cell_blk HX.out 2 rfl
  have e3 : w2.cell? ⟨w.heap.size, 3, none⟩ = some (.int .i64 r.peer) := cell_blk HX.out 3 rfl
  have e4 : w2.cell? ⟨w.heap.size, 4, none⟩ = some (.int .i64 r.client) := cell_blk HX.out 4 rfl
  have e5 : w2.cell? ⟨w.heap.size, 5, none⟩ = some (.int .i64 r.seq) := cell_blk HX.out 5 rfl
  have e6 : w2.cell? ⟨w.heap.size, 6, none⟩ = some (.int .i64 r.op.kind) := cell_blk HX.out 6 rfl
  have e7 : w2.cell? ⟨w.heap.size, 7, none⟩ = some (.slice K.1 K.2.1 K.2.2) := cell_blk HX.out 7 rfl
  have e8 : w2.cell? ⟨w.heap.size, 8, none⟩ = some (.slice V.1 V.2.1 V.2.2) := cell_blk HX.out 8 rfl
  have e9 : w2.cell? ⟨w.heap.size, 9, none⟩ = some (.int .i64 r.op.rev) := cell_blk HX.out 9 rfl
  have e10 : w2.cell? ⟨w.heap.size, 10, none⟩ = some (.slice C.1 C.2.1 C.2.2) := cell_blk HX.out 10 rfl
  have CA := Lib.hid (lentRec_sep (HH.out.below HB.out))
  unfold recV recCells at CA
  go_wp2_with (fail)
  refine CA.out.mono ?_
  rintro e w3 ⟨GK, GV, GC, m1, m2, rfl, y1, y2, y3, nK, nV, nC, hb⟩
  clear CA
  clear e0 e1 e2 e3 e4 e5 e6 e7 e8 e9 e10
  have Z2 := Lib.hid hb.size
  have HX := Lib.hid (blk_below HX.out hb)
  have HQ := Lib.hid (blk_below HQ.out hb)
  have HB := Lib.hid (HB.out.trans (hb.mono HB.out.size))
  clear hb
  have Y1 := Lib.hid y1
  have Y2 := Lib.hid y2
  have Y3 := Lib.hid y3
  have NK := Lib.hid nK
  have NV := Lib.hid nV
  have NC := Lib.hid nC
  clear y1 y2 y3 nK nV nC
  have nb := blk_new w3 (.cells (recCells r GK GV GC) TRec (0, 0))
  have hb : Below w3.heap.size w3 (w3.alloc (.cells (recCells r GK GV GC) TRec (0, 0))) := (Below.refl _ _).alloc (Nat.le_refl _) _
  have sb : (w3.alloc (.cells (recCells r GK GV GC) TRec (0, 0))).heap.size = w3.heap.size + 1 := World.size_alloc _ _
  generalize hwn : w3.alloc (.cells (recCells r GK GV GC) TRec (0, 0)) = w4 at *
  have Z6 := Lib.hid hb.size
  have HX := Lib.hid (blk_below HX.out hb)
  have HQ := Lib.hid (blk_below HQ.out hb)
  have NK := Lib.hid (NK.out.blw hb)
  have NV := Lib.hid (NV.out.blw hb)
  have NC := Lib.hid (NC.out.blw hb)
  have HB := Lib.hid (HB.out.trans (hb.mono HB.out.size))
  clear hb
  have Z7 := Lib.hid (Nat.le_of_eq sb.symm)
  have HG := Lib.hid nb
  unfold recCells at hwn
  have HWN := Lib.hid hwn
  clear nb sb hwn
  go_upto_region 4 with (fail)
  rw [HWN.out]
  clear HWN
  by_cases hs : SoundR r
  · have HSO := Lib.hid hs
    have HFL := Lib.hid (show (formR r).length ≤ 300000 ∧ 1 ≤ (formR r).length by
      have := formR_room hs; have := hs.lens
      exact ⟨by omega, by unfold formR; simp⟩)
    have HFT := Lib.hid (show (formR (turnR r)).length ≤ 300000 by have := formR_room (turnR_sound hs); have := (turnR_sound hs).lens; omega)
    have HLN := Lib.hid hs.lens
    clear hs
    have d0 : w4.cell? ⟨w3.heap.size, 0, none⟩ = some (.int .i64 r.kind) := cell_blk HG.out 0 rfl
    have d1 : w4.cell? ⟨w3.heap.size, 1, none⟩ = some (.int .i64 r.shard) := cell_blk HG.out 1 rfl
    have d2 : w4.cell? ⟨w3.heap.size, 2, none⟩ = some (.int .i64 r.epoch) := cell_blk HG.out 2 rfl
    have d3 : w4.cell? ⟨w3.heap.size, 3, none⟩ = some (.int .i64 r.peer) := cell_blk HG.out 3 rfl
    have d4 : w4.cell? ⟨w3.heap.size, 4, none⟩ = some (.int .i64 r.client) := cell_blk HG.out 4 rfl
    have d5 : w4.cell? ⟨w3.heap.size, 5, none⟩ = some (.int .i64 r.seq) := cell_blk HG.out 5 rfl
    have d6 : w4.cell? ⟨w3.heap.size, 6, none⟩ = some (.int .i64 r.op.kind) := cell_blk HG.out 6 rfl
    have d7 : w4.cell? ⟨w3.heap.size, 7, none⟩ = some (.slice GK.1 GK.2.1 GK.2.2) := cell_blk HG.out 7 rfl
    have d8 : w4.cell? ⟨w3.heap.size, 8, none⟩ = some (.slice GV.1 GV.2.1 GV.2.2) := cell_blk HG.out 8 rfl
    have d9 : w4.cell? ⟨w3.heap.size, 9, none⟩ = some (.int .i64 r.op.rev) := cell_blk HG.out 9 rfl
    have d10 : w4.cell? ⟨w3.heap.size, 10, none⟩ = some (.slice GC.1 GC.2.1 GC.2.2) := cell_blk HG.out 10 rfl
    have hm : m1 ≤ w4.heap.size ∧ m2 ≤ w4.heap.size ∧ w3.heap.size ≤ w4.heap.size := (by have z0_ := Z0.out; have z1_ := Z1.out; have z2_ := Z2.out; have y1_ := Y1.out; have y2_ := Y2.out; have y3_ := Y3.out; have z6_ := Z6.out; have z7_ := Z7.out; omega)
    have CA := Lib.hid (enc_s HSO.out HH.out.wf HH.out.byt NK.out NV.out NC.out hm)
    unfold recV recCells at CA
    clear hm
    go_wp2_with (fail)
    refine CA.out.mono ?_
    rintro e w5 ⟨P, rfl, nP, hb⟩
    clear CA
    have Z8 := Lib.hid hb.size
    have HX := Lib.hid (blk_below HX.out hb)
    have HQ := Lib.hid (blk_below HQ.out hb)
    have NK := Lib.hid (NK.out.blw hb)
    have NV := Lib.hid (NV.out.blw hb)
    have NC := Lib.hid (NC.out.blw hb)
    have HG := Lib.hid (blk_below HG.out hb)
    have HB := Lib.hid (HB.out.trans (hb.mono HB.out.size))
    clear hb
    have NP := Lib.hid nP
    clear nP
    clear d0 d1 d2 d3 d4 d5 d6 d7 d8 d9 d10
    have e0 : w5.cell? ⟨w.heap.size + 1, 0, none⟩ = some (.int .i64 q.kind) := cell_blk HQ.out 0 rfl
    have e1 : w5.cell? ⟨w.heap.size + 1, 1, none⟩ = some (.int .i64 q.shard) := cell_blk HQ.out 1 rfl
    have e2 : w5.cell? ⟨w.heap.size + 1, 2, none⟩ = some (.int .i64 q.epoch) := cell_blk HQ.out 2 rfl
    have e3 : w5.cell? ⟨w.heap.size + 1, 3, none⟩ = some (.int .i64 q.peer) := cell_blk HQ.out 3 rfl
    have e4 : w5.cell? ⟨w.heap.size + 1, 4, none⟩ = some (.int .i64 q.client) := cell_blk HQ.out 4 rfl
    have e5 : w5.cell? ⟨w.heap.size + 1, 5, none⟩ = some (.int .i64 q.seq) := cell_blk HQ.out 5 rfl
    have e6 : w5.cell? ⟨w.heap.size + 1, 6, none⟩ = some (.int .i64 q.op.kind) := cell_blk HQ.out 6 rfl
    have e7 : w5.cell? ⟨w.heap.size + 1, 7, none⟩ = some (.slice K'.1 K'.2.1 K'.2.2) := cell_blk HQ.out 7 rfl
    have e8 : w5.cell? ⟨w.heap.size + 1, 8, none⟩ = some (.slice V'.1 V'.2.1 V'.2.2) := cell_blk HQ.out 8 rfl
    have e9 : w5.cell? ⟨w.heap.size + 1, 9, none⟩ = some (.int .i64 q.op.rev) := cell_blk HQ.out 9 rfl
    have e10 : w5.cell? ⟨w.heap.size + 1, 10, none⟩ = some (.slice C'.1 C'.2.1 C'.2.2) := cell_blk HQ.out 10 rfl
    have CA := Lib.hid (encode_u (HH'.out.below HB.out))
    unfold recV recCells at CA
    go_wp2_with (fail)
    refine CA.out.mono ?_
    rintro e w6 ⟨A0, c0, rfl, _, hb⟩
    clear CA
    have Z9 := Lib.hid hb.size
    have HX := Lib.hid (blk_below HX.out hb)
    have HQ := Lib.hid (blk_below HQ.out hb)
    have NK := Lib.hid (NK.out.blw hb)
    have NV := Lib.hid (NV.out.blw hb)
    have NC := Lib.hid (NC.out.blw hb)
    have HG := Lib.hid (blk_below HG.out hb)
    have NP := Lib.hid (NP.out.blw hb)
    have HB := Lib.hid (HB.out.trans (hb.mono HB.out.size))
    clear hb
    clear e0 e1 e2 e3 e4 e5 e6 e7 e8 e9 e10
    have d0 : w6.cell? ⟨w3.heap.size, 0, none⟩ = some (.int .i64 r.kind) := cell_blk HG.out 0 rfl
    have d1 : w6.cell? ⟨w3.heap.size, 1, none⟩ = some (.int .i64 r.shard) := cell_blk HG.out 1 rfl
    have d2 : w6.cell? ⟨w3.heap.size, 2, none⟩ = some (.int .i64 r.epoch) := cell_blk HG.out 2 rfl
    have d3 : w6.cell? ⟨w3.heap.size, 3, none⟩ = some (.int .i64 r.peer) := cell_blk HG.out 3 rfl
    have d4 : w6.cell? ⟨w3.heap.size, 4, none⟩ = some (.int .i64 r.client) := cell_blk HG.out 4 rfl
    have d5 : w6.cell? ⟨w3.heap.size, 5, none⟩ = some (.int .i64 r.seq) := cell_blk HG.out 5 rfl
    have d6 : w6.cell? ⟨w3.heap.size, 6, none⟩ = some (.int .i64 r.op.kind) := cell_blk HG.out 6 rfl
    have d7 : w6.cell? ⟨w3.heap.size, 7, none⟩ = some (.slice GK.1 GK.2.1 GK.2.2) := cell_blk HG.out 7 rfl
    have d8 : w6.cell? ⟨w3.heap.size, 8, none⟩ = some (.slice GV.1 GV.2.1 GV.2.2) := cell_blk HG.out 8 rfl
    have d9 : w6.cell? ⟨w3.heap.size, 9, none⟩ = some (.int .i64 r.op.rev) := cell_blk HG.out 9 rfl
    have d10 : w6.cell? ⟨w3.heap.size, 10, none⟩ = some (.slice GC.1 GC.2.1 GC.2.2) := cell_blk HG.out 10 rfl
    have hm : m1 ≤ w6.heap.size ∧ m2 ≤ w6.heap.size ∧ w3.heap.size ≤ w6.heap.size := (by have z0_ := Z0.out; have z1_ := Z1.out; have z2_ := Z2.out; have y1_ := Y1.out; have y2_ := Y2.out; have y3_ := Y3.out; have z6_ := Z6.out; have z7_ := Z7.out; have z8_ := Z8.out; have z9_ := Z9.out; omega)
    have CA := Lib.hid (enc_s HSO.out HH.out.wf HH.out.byt NK.out NV.out NC.out hm)
    unfold recV recCells at CA
    clear hm
    go_wp2_with (fail)
    refine CA.out.mono ?_
    rintro e w7 ⟨Q, rfl, nQ, hb⟩
    clear CA
    have Z10 := Lib.hid hb.size
    have HX := Lib.hid (blk_below HX.out hb)
    have HQ := Lib.hid (blk_below HQ.out hb)
    have NK := Lib.hid (NK.out.blw hb)
    have NV := Lib.hid (NV.out.blw hb)
    have NC := Lib.hid (NC.out.blw hb)
    have HG := Lib.hid (blk_below HG.out hb)
    have NP := Lib.hid (NP.out.blw hb)
    have HB := Lib.hid (HB.out.trans (hb.mono HB.out.size))
    clear hb
    have NQ := Lib.hid nQ
    clear nQ
    clear d0 d1 d2 d3 d4 d5 d6 d7 d8 d9 d10
    obtain ⟨n, hn⟩ : ∃ n, (formR r).length = n := ⟨_, rfl⟩
    have HN := Lib.hid hn
    have hn3 : n ≤ 300000 := by rw [← hn]; exact HFL.out.1
    have HNN := HN.out
    have CA := Lib.hid (same_any (c := P.2.2) (c' := Q.2.2) NP.out.src NQ.out.src (by omega) (by omega))
    rw [decide_eq_true rfl] at CA
    rw [hn] at CA ⊢
    clear HNN hn
    go_wp2_with (fail)
    refine CA.out.mono ?_
    rintro e w8 ⟨rfl, hb⟩
    clear CA
    have Z11 := Lib.hid hb.size
    have HX := Lib.hid (blk_below HX.out hb)
    have HQ := Lib.hid (blk_below HQ.out hb)
    have NK := Lib.hid (NK.out.blw hb)
    have NV := Lib.hid (NV.out.blw hb)
    have NC := Lib.hid (NC.out.blw hb)
    have HG := Lib.hid (blk_below HG.out hb)
    have NP := Lib.hid (NP.out.blw hb)
    have NQ := Lib.hid (NQ.out.blw hb)
    have HB := Lib.hid (HB.out.trans (hb.mono HB.out.size))
    clear hb
    obtain ⟨AW, cW, wW, hrW, nW, bW⟩ := copy_new (c0 := P.2.2) NP.out.src (by rw [HN.out]; omega)
    rw [HN.out] at hrW nW
    have HRW := Lib.hid hrW
    clear hrW
    go_upto_region 12 with (refine wpList_app HRW.out rfl rfl rfl (by rfl) (by rfl) ?_)
    generalize wW = w9 at *
    clear HRW
    have hb := bW
    clear bW
    have Z12 := Lib.hid hb.size
    have HX := Lib.hid (blk_below HX.out hb)
    have HQ := Lib.hid (blk_below HQ.out hb)
    have NK := Lib.hid (NK.out.blw hb)
    have NV := Lib.hid (NV.out.blw hb)
    have NC := Lib.hid (NC.out.blw hb)
    have HG := Lib.hid (blk_below HG.out hb)
    have NP := Lib.hid (NP.out.blw hb)
    have NQ := Lib.hid (NQ.out.blw hb)
    have HB := Lib.hid (HB.out.trans (hb.mono HB.out.size))
    clear hb
    have NW := Lib.hid nW
    clear nW
    have CA := Lib.hid (lent_new (c0 := P.2.2) NP.out.src (by rw [HN.out]; omega))
    rw [HN.out] at CA
    go_wp2_with (fail)
    refine CA.out.mono ?_
    rintro e w10 ⟨BY, rfl, nY, hb⟩
    clear CA
    have Z13 := Lib.hid hb.size
    have HX := Lib.hid (blk_below HX.out hb)
    have HQ := Lib.hid (blk_below HQ.out hb)
    have NK := Lib.hid (NK.out.blw hb)
    have NV := Lib.hid (NV.out.blw hb)
    have NC := Lib.hid (NC.out.blw hb)
    have HG := Lib.hid (blk_below HG.out hb)
    have NP := Lib.hid (NP.out.blw hb)
    have NQ := Lib.hid (NQ.out.blw hb)
    have NW := Lib.hid (NW.out.blw hb)
    have HB := Lib.hid (HB.out.trans (hb.mono HB.out.size))
    clear hb
    have NBY := Lib.hid nY
    clear nY
    have CA := Lib.hid (dec_s (c0 := BY.2.2) HSO.out HH.out.byt NBY.out)
    rw [HN.out] at CA
    unfold recV recCells at CA
    go_wp2_with (fail)
    refine CA.out.mono ?_
    rintro e w11 ⟨aK, aV, aC, ma, ka, rfl, y1, y2, y3, nK, nV, nC, hb⟩
    clear CA
    have Z14 := Lib.hid hb.size
    have HX := Lib.hid (blk_below HX.out hb)
    have HQ := Lib.hid (blk_below HQ.out hb)
    have NK := Lib.hid (NK.out.blw hb)
    have NV := Lib.hid (NV.out.blw hb)
    have NC := Lib.hid (NC.out.blw hb)
    have HG := Lib.hid (blk_below HG.out hb)
    have NP := Lib.hid (NP.out.blw hb)
    have NQ := Lib.hid (NQ.out.blw hb)
    have NW := Lib.hid (NW.out.blw hb)
    have NBY := Lib.hid (NBY.out.blw hb)
    have HB := Lib.hid (HB.out.trans (hb.mono HB.out.size))
    clear hb
    have Ya0 := Lib.hid y1
    have Ya1 := Lib.hid y2
    have Ya2 := Lib.hid y3
    have NaK := Lib.hid nK
    have NaV := Lib.hid nV
    have NaC := Lib.hid nC
    clear y1 y2 y3 nK nV nC
    have nb := blk_new w11 (.cells (recCells r aK aV aC) TRec (0, 0))
    have hb : Below w11.heap.size w11 (w11.alloc (.cells (recCells r aK aV aC) TRec (0, 0))) := (Below.refl _ _).alloc (Nat.le_refl _) _
    have sb : (w11.alloc (.cells (recCells r aK aV aC) TRec (0, 0))).heap.size = w11.heap.size + 1 := World.size_alloc _ _
    generalize hwn : w11.alloc (.cells (recCells r aK aV aC) TRec (0, 0)) = w12 at *
    have Z18 := Lib.hid hb.size
    have HX := Lib.hid (blk_below HX.out hb)
    have HQ := Lib.hid (blk_below HQ.out hb)
    have NK := Lib.hid (NK.out.blw hb)
    have NV := Lib.hid (NV.out.blw hb)
    have NC := Lib.hid (NC.out.blw hb)
    have HG := Lib.hid (blk_below HG.out hb)
    have NP := Lib.hid (NP.out.blw hb)
    have NQ := Lib.hid (NQ.out.blw hb)
    have NW := Lib.hid (NW.out.blw hb)
    have NBY := Lib.hid (NBY.out.blw hb)
    have NaK := Lib.hid (NaK.out.blw hb)
    have NaV := Lib.hid (NaV.out.blw hb)
    have NaC := Lib.hid (NaC.out.blw hb)
    have HB := Lib.hid (HB.out.trans (hb.mono HB.out.size))
    clear hb
    have Z19 := Lib.hid (Nat.le_of_eq sb.symm)
    have HA := Lib.hid nb
    unfold recCells at hwn
    have HWN := Lib.hid hwn
    clear nb sb hwn
    go_upto_region 14 with (fail)
    rw [HWN.out]
    clear HWN
    have CA := Lib.hid (dec_s (c0 := BY.2.2) HSO.out HH.out.byt NBY.out)
    rw [HN.out] at CA
    unfold recV recCells at CA
    go_wp2_with (fail)
    refine CA.out.mono ?_
    rintro e w13 ⟨bK, bV, bC, mb, kb, rfl, y1, y2, y3, nK, nV, nC, hb⟩
    clear CA
    have Z20 := Lib.hid hb.size
    have HX := Lib.hid (blk_below HX.out hb)
    have HQ := Lib.hid (blk_below HQ.out hb)
    have NK := Lib.hid (NK.out.blw hb)
    have NV := Lib.hid (NV.out.blw hb)
    have NC := Lib.hid (NC.out.blw hb)
    have HG := Lib.hid (blk_below HG.out hb)
    have NP := Lib.hid (NP.out.blw hb)
    have NQ := Lib.hid (NQ.out.blw hb)
    have NW := Lib.hid (NW.out.blw hb)
    have NBY := Lib.hid (NBY.out.blw hb)
    have NaK := Lib.hid (NaK.out.blw hb)
    have NaV := Lib.hid (NaV.out.blw hb)
    have NaC := Lib.hid (NaC.out.blw hb)
    have HA := Lib.hid (blk_below HA.out hb)
    have HB := Lib.hid (HB.out.trans (hb.mono HB.out.size))
    clear hb
    have Yb0 := Lib.hid y1
    have Yb1 := Lib.hid y2
    have Yb2 := Lib.hid y3
    have NbK := Lib.hid nK
    have NbV := Lib.hid nV
    have NbC := Lib.hid nC
    clear y1 y2 y3 nK nV nC
    have nb := blk_new w13 (.cells (recCells r bK bV bC) TRec (0, 0))
    have hb : Below w13.heap.size w13 (w13.alloc (.cells (recCells r bK bV bC) TRec (0, 0))) := (Below.refl _ _).alloc (Nat.le_refl _) _
    have sb : (w13.alloc (.cells (recCells r bK bV bC) TRec (0, 0))).heap.size = w13.heap.size + 1 := World.size_alloc _ _
    generalize hwn : w13.alloc (.cells (recCells r bK bV bC) TRec (0, 0)) = w14 at *
    have Z24 := Lib.hid hb.size
    have HX := Lib.hid (blk_below HX.out hb)
    have HQ := Lib.hid (blk_below HQ.out hb)
    have NK := Lib.hid (NK.out.blw hb)
    have NV := Lib.hid (NV.out.blw hb)
    have NC := Lib.hid (NC.out.blw hb)
    have HG := Lib.hid (blk_below HG.out hb)
    have NP := Lib.hid (NP.out.blw hb)
    have NQ := Lib.hid (NQ.out.blw hb)
    have NW := Lib.hid (NW.out.blw hb)
    have NBY := Lib.hid (NBY.out.blw hb)
    have NaK := Lib.hid (NaK.out.blw hb)
    have NaV := Lib.hid (NaV.out.blw hb)
    have NaC := Lib.hid (NaC.out.blw hb)
    have HA := Lib.hid (blk_below HA.out hb)
    have NbK := Lib.hid (NbK.out.blw hb)
    have NbV := Lib.hid (NbV.out.blw hb)
    have NbC := Lib.hid (NbC.out.blw hb)
    have HB := Lib.hid (HB.out.trans (hb.mono HB.out.size))
    clear hb
    have Z25 := Lib.hid (Nat.le_of_eq sb.symm)
    have HBk := Lib.hid nb
    unfold recCells at hwn
    have HWN := Lib.hid hwn
    clear nb sb hwn
    go_upto_region 15 with (fail)
    rw [HWN.out]
    clear HWN
    have CA := Lib.hid (sameRec_any (RecLie.ofNew NaK.out NaV.out NaC.out HSO.out) (HH.out.lie.below HB.out))
    rw [show sameRB r r = true from (sameRB_iff _ _).2 rfl] at CA
    unfold recV recCells at CA
    have e0 : w14.cell? ⟨w.heap.size, 0, none⟩ = some (.int .i64 r.kind) := cell_blk HX.out 0 rfl
    have e1 : w14.cell? ⟨w.heap.size, 1, none⟩ = some (.int .i64 r.shard) := cell_blk HX.out 1 rfl
    have e2 : w14.cell? ⟨w.heap.size, 2, none⟩ = some (.int .i64 r.epoch) := cell_blk HX.out 2 rfl
    have e3 : w14.cell? ⟨w.heap.size, 3, none⟩ = some (.int .i64 r.peer) := cell_blk HX.out 3 rfl
    have e4 : w14.cell? ⟨w.heap.size, 4, none⟩ = some (.int .i64 r.client) := cell_blk HX.out 4 rfl
    have e5 : w14.cell? ⟨w.heap.size, 5, none⟩ = some (.int .i64 r.seq) := cell_blk HX.out 5 rfl
    have e6 : w14.cell? ⟨w.heap.size, 6, none⟩ = some (.int .i64 r.op.kind) := cell_blk HX.out 6 rfl
    have e7 : w14.cell? ⟨w.heap.size, 7, none⟩ = some (.slice K.1 K.2.1 K.2.2) := cell_blk HX.out 7 rfl
    have e8 : w14.cell? ⟨w.heap.size, 8, none⟩ = some (.slice V.1 V.2.1 V.2.2) := cell_blk HX.out 8 rfl
    have e9 : w14.cell? ⟨w.heap.size, 9, none⟩ = some (.int .i64 r.op.rev) := cell_blk HX.out 9 rfl
    have e10 : w14.cell? ⟨w.heap.size, 10, none⟩ = some (.slice C.1 C.2.1 C.2.2) := cell_blk HX.out 10 rfl
    have d0 : w14.cell? ⟨w11.heap.size, 0, none⟩ = some (.int .i64 r.kind) := cell_blk HA.out 0 rfl
    have d1 : w14.cell? ⟨w11.heap.size, 1, none⟩ = some (.int .i64 r.shard) := cell_blk HA.out 1 rfl
    have d2 : w14.cell? ⟨w11.heap.size, 2, none⟩ = some (.int .i64 r.epoch) := cell_blk HA.out 2 rfl
    have d3 : w14.cell? ⟨w11.heap.size, 3, none⟩ = some (.int .i64 r.peer) := cell_blk HA.out 3 rfl
    have d4 : w14.cell? ⟨w11.heap.size, 4, none⟩ = some (.int .i64 r.client) := cell_blk HA.out 4 rfl
    have d5 : w14.cell? ⟨w11.heap.size, 5, none⟩ = some (.int .i64 r.seq) := cell_blk HA.out 5 rfl
    have d6 : w14.cell? ⟨w11.heap.size, 6, none⟩ = some (.int .i64 r.op.kind) := cell_blk HA.out 6 rfl
    have d7 : w14.cell? ⟨w11.heap.size, 7, none⟩ = some (.slice aK.1 aK.2.1 aK.2.2) := cell_blk HA.out 7 rfl
    have d8 : w14.cell? ⟨w11.heap.size, 8, none⟩ = some (.slice aV.1 aV.2.1 aV.2.2) := cell_blk HA.out 8 rfl
    have d9 : w14.cell? ⟨w11.heap.size, 9, none⟩ = some (.int .i64 r.op.rev) := cell_blk HA.out 9 rfl
    have d10 : w14.cell? ⟨w11.heap.size, 10, none⟩ = some (.slice aC.1 aC.2.1 aC.2.2) := cell_blk HA.out 10 rfl
    go_wp2_with (fail)
    refine CA.out.mono ?_
    rintro e w15 ⟨rfl, hb⟩
    clear CA
    have Z26 := Lib.hid hb.size
    have HX := Lib.hid (blk_below HX.out hb)
    have HQ := Lib.hid (blk_below HQ.out hb)
    have NK := Lib.hid (NK.out.blw hb)
    have NV := Lib.hid (NV.out.blw hb)
    have NC := Lib.hid (NC.out.blw hb)
    have HG := Lib.hid (blk_below HG.out hb)
    have NP := Lib.hid (NP.out.blw hb)
    have NQ := Lib.hid (NQ.out.blw hb)
    have NW := Lib.hid (NW.out.blw hb)
    have NBY := Lib.hid (NBY.out.blw hb)
    have NaK := Lib.hid (NaK.out.blw hb)
    have NaV := Lib.hid (NaV.out.blw hb)
    have NaC := Lib.hid (NaC.out.blw hb)
    have HA := Lib.hid (blk_below HA.out hb)
    have NbK := Lib.hid (NbK.out.blw hb)
    have NbV := Lib.hid (NbV.out.blw hb)
    have NbC := Lib.hid (NbC.out.blw hb)
    have HBk := Lib.hid (blk_below HBk.out hb)
    have HB := Lib.hid (HB.out.trans (hb.mono HB.out.size))
    clear hb
    clear e0 e1 e2 e3 e4 e5 e6 e7 e8 e9 e10
    clear d0 d1 d2 d3 d4 d5 d6 d7 d8 d9 d10
    have CA := Lib.hid (sameRec_any (RecLie.ofNew NbK.out NbV.out NbC.out HSO.out) (HH.out.lie.below HB.out))
    rw [show sameRB r r = true from (sameRB_iff _ _).2 rfl] at CA
    unfold recV recCells at CA
    have e0 : w15.cell? ⟨w.heap.size, 0, none⟩ = some (.int .i64 r.kind) := cell_blk HX.out 0 rfl
    have e1 : w15.cell? ⟨w.heap.size, 1, none⟩ = some (.int .i64 r.shard) := cell_blk HX.out 1 rfl
    have e2 : w15.cell? ⟨w.heap.size, 2, none⟩ = some (.int .i64 r.epoch) := cell_blk HX.out 2 rfl
    have e3 : w15.cell? ⟨w.heap.size, 3, none⟩ = some (.int .i64 r.peer) := cell_blk HX.out 3 rfl
    have e4 : w15.cell? ⟨w.heap.size, 4, none⟩ = some (.int .i64 r.client) := cell_blk HX.out 4 rfl
    have e5 : w15.cell? ⟨w.heap.size, 5, none⟩ = some (.int .i64 r.seq) := cell_blk HX.out 5 rfl
    have e6 : w15.cell? ⟨w.heap.size, 6, none⟩ = some (.int .i64 r.op.kind) := cell_blk HX.out 6 rfl
    have e7 : w15.cell? ⟨w.heap.size, 7, none⟩ = some (.slice K.1 K.2.1 K.2.2) := cell_blk HX.out 7 rfl
    have e8 : w15.cell? ⟨w.heap.size, 8, none⟩ = some (.slice V.1 V.2.1 V.2.2) := cell_blk HX.out 8 rfl
    have e9 : w15.cell? ⟨w.heap.size, 9, none⟩ = some (.int .i64 r.op.rev) := cell_blk HX.out 9 rfl
    have e10 : w15.cell? ⟨w.heap.size, 10, none⟩ = some (.slice C.1 C.2.1 C.2.2) := cell_blk HX.out 10 rfl
    have d0 : w15.cell? ⟨w13.heap.size, 0, none⟩ = some (.int .i64 r.kind) := cell_blk HBk.out 0 rfl
    have d1 : w15.cell? ⟨w13.heap.size, 1, none⟩ = some (.int .i64 r.shard) := cell_blk HBk.out 1 rfl
    have d2 : w15.cell? ⟨w13.heap.size, 2, none⟩ = some (.int .i64 r.epoch) := cell_blk HBk.out 2 rfl
    have d3 : w15.cell? ⟨w13.heap.size, 3, none⟩ = some (.int .i64 r.peer) := cell_blk HBk.out 3 rfl
    have d4 : w15.cell? ⟨w13.heap.size, 4, none⟩ = some (.int .i64 r.client) := cell_blk HBk.out 4 rfl
    have d5 : w15.cell? ⟨w13.heap.size, 5, none⟩ = some (.int .i64 r.seq) := cell_blk HBk.out 5 rfl
    have d6 : w15.cell? ⟨w13.heap.size, 6, none⟩ = some (.int .i64 r.op.kind) := cell_blk HBk.out 6 rfl
    have d7 : w15.cell? ⟨w13.heap.size, 7, none⟩ = some (.slice bK.1 bK.2.1 bK.2.2) := cell_blk HBk.out 7 rfl
    have d8 : w15.cell? ⟨w13.heap.size, 8, none⟩ = some (.slice bV.1 bV.2.1 bV.2.2) := cell_blk HBk.out 8 rfl
    have d9 : w15.cell? ⟨w13.heap.size, 9, none⟩ = some (.int .i64 r.op.rev) := cell_blk HBk.out 9 rfl
    have d10 : w15.cell? ⟨w13.heap.size, 10, none⟩ = some (.slice bC.1 bC.2.1 bC.2.2) := cell_blk HBk.out 10 rfl
    go_wp2_with (fail)
    refine CA.out.mono ?_
    rintro e w16 ⟨rfl, hb⟩
    clear CA
    have Z27 := Lib.hid hb.size
    have HX := Lib.hid (blk_below HX.out hb)
    have HQ := Lib.hid (blk_below HQ.out hb)
    have NK := Lib.hid (NK.out.blw hb)
    have NV := Lib.hid (NV.out.blw hb)
    have NC := Lib.hid (NC.out.blw hb)
    have HG := Lib.hid (blk_below HG.out hb)
    have NP := Lib.hid (NP.out.blw hb)
    have NQ := Lib.hid (NQ.out.blw hb)
    have NW := Lib.hid (NW.out.blw hb)
    have NBY := Lib.hid (NBY.out.blw hb)
    have NaK := Lib.hid (NaK.out.blw hb)
    have NaV := Lib.hid (NaV.out.blw hb)
    have NaC := Lib.hid (NaC.out.blw hb)
    have HA := Lib.hid (blk_below HA.out hb)
    have NbK := Lib.hid (NbK.out.blw hb)
    have NbV := Lib.hid (NbV.out.blw hb)
    have NbC := Lib.hid (NbC.out.blw hb)
    have HBk := Lib.hid (blk_below HBk.out hb)
    have HB := Lib.hid (HB.out.trans (hb.mono HB.out.size))
    clear hb
    clear e0 e1 e2 e3 e4 e5 e6 e7 e8 e9 e10
    clear d0 d1 d2 d3 d4 d5 d6 d7 d8 d9 d10
    have d7 : w16.cell? ⟨w3.heap.size, 7, none⟩ = some (.slice GK.1 GK.2.1 GK.2.2) := cell_blk HG.out 7 rfl
    have CA := Lib.hid (turn_any NK.out HH.out.byt.key (by have := HLN.out; omega))
    go_wp2_with (fail)
    refine CA.out.mono ?_
    rintro e w17 ⟨rfl, nn, fr, sz⟩
    clear CA
    clear d7
    have NK := Lib.hid nn
    clear nn
    have z0_ := Z0.out
    have z1_ := Z1.out
    have z2_ := Z2.out
    have y1_ := Y1.out
    have y2_ := Y2.out
    have y3_ := Y3.out
    have z6_ := Z6.out
    have z7_ := Z7.out
    have z8_ := Z8.out
    have z9_ := Z9.out
    have z10_ := Z10.out
    have z11_ := Z11.out
    have z12_ := Z12.out
    have z13_ := Z13.out
    have z14_ := Z14.out
    have ya0_ := Ya0.out
    have ya1_ := Ya1.out
    have ya2_ := Ya2.out
    have z18_ := Z18.out
    have z19_ := Z19.out
    have z20_ := Z20.out
    have yb0_ := Yb0.out
    have yb1_ := Yb1.out
    have yb2_ := Yb2.out
    have z24_ := Z24.out
    have z25_ := Z25.out
    have z26_ := Z26.out
    have z27_ := Z27.out
    have HX := Lib.hid ((fr.block _ (blk_lt HX.out) (fun h => by omega)).trans HX.out)
    have HQ := Lib.hid ((fr.block _ (blk_lt HQ.out) (fun h => by omega)).trans HQ.out)
    have NV := Lib.hid (NV.out.frr fr fun b h1 h2 h3 => by omega)
    have NC := Lib.hid (NC.out.frr fr fun b h1 h2 h3 => by omega)
    have HG := Lib.hid ((fr.block _ (blk_lt HG.out) (fun h => by omega)).trans HG.out)
    have NP := Lib.hid (NP.out.frr fr fun b h1 h2 h3 => by omega)
    have NQ := Lib.hid (NQ.out.frr fr fun b h1 h2 h3 => by omega)
    have NW := Lib.hid (NW.out.frr fr fun b h1 h2 h3 => by omega)
    have NBY := Lib.hid (NBY.out.frr fr fun b h1 h2 h3 => by omega)
    have NaK := Lib.hid (NaK.out.frr fr fun b h1 h2 h3 => by omega)
    have NaV := Lib.hid (NaV.out.frr fr fun b h1 h2 h3 => by omega)
    have NaC := Lib.hid (NaC.out.frr fr fun b h1 h2 h3 => by omega)
    have HA := Lib.hid ((fr.block _ (blk_lt HA.out) (fun h => by omega)).trans HA.out)
    have NbK := Lib.hid (NbK.out.frr fr fun b h1 h2 h3 => by omega)
    have NbV := Lib.hid (NbV.out.frr fr fun b h1 h2 h3 => by omega)
    have NbC := Lib.hid (NbC.out.frr fr fun b h1 h2 h3 => by omega)
    have HBk := Lib.hid ((fr.block _ (blk_lt HBk.out) (fun h => by omega)).trans HBk.out)
    have HB := Lib.hid (HB.out.trans (fr.toBelow (fun b h => by omega) HB.out.size))
    clear z0_ z1_ z2_ y1_ y2_ y3_ z6_ z7_ z8_ z9_ z10_ z11_ z12_ z13_ z14_ ya0_ ya1_ ya2_ z18_ z19_ z20_ yb0_ yb1_ yb2_ z24_ z25_ z26_ z27_
    have Z28 := Lib.hid (Nat.le_of_eq sz.symm)
    clear fr sz
    have d8 : w17.cell? ⟨w3.heap.size, 8, none⟩ = some (.slice GV.1 GV.2.1 GV.2.2) := cell_blk HG.out 8 rfl
    have CA := Lib.hid (turn_any NV.out HH.out.byt.val (by have := HLN.out; omega))
    go_wp2_with (fail)
    refine CA.out.mono ?_
    rintro e w18 ⟨rfl, nn, fr, sz⟩
    clear CA
    clear d8
    have NV := Lib.hid nn
    clear nn
    have z0_ := Z0.out
    have z1_ := Z1.out
    have z2_ := Z2.out
    have y1_ := Y1.out
    have y2_ := Y2.out
    have y3_ := Y3.out
    have z6_ := Z6.out
    have z7_ := Z7.out
    have z8_ := Z8.out
    have z9_ := Z9.out
    have z10_ := Z10.out
    have z11_ := Z11.out
    have z12_ := Z12.out
    have z13_ := Z13.out
    have z14_ := Z14.out
    have ya0_ := Ya0.out
    have ya1_ := Ya1.out
    have ya2_ := Ya2.out
    have z18_ := Z18.out
    have z19_ := Z19.out
    have z20_ := Z20.out
    have yb0_ := Yb0.out
    have yb1_ := Yb1.out
    have yb2_ := Yb2.out
    have z24_ := Z24.out
    have z25_ := Z25.out
    have z26_ := Z26.out
    have z27_ := Z27.out
    have z28_ := Z28.out
    have HX := Lib.hid ((fr.block _ (blk_lt HX.out) (fun h => by omega)).trans HX.out)
    have HQ := Lib.hid ((fr.block _ (blk_lt HQ.out) (fun h => by omega)).trans HQ.out)
    have NK := Lib.hid (NK.out.frr fr fun b h1 h2 h3 => by omega)
    have NC := Lib.hid (NC.out.frr fr fun b h1 h2 h3 => by omega)
    have HG := Lib.hid ((fr.block _ (blk_lt HG.out) (fun h => by omega)).trans HG.out)
    have NP := Lib.hid (NP.out.frr fr fun b h1 h2 h3 => by omega)
    have NQ := Lib.hid (NQ.out.frr fr fun b h1 h2 h3 => by omega)
    have NW := Lib.hid (NW.out.frr fr fun b h1 h2 h3 => by omega)
    have NBY := Lib.hid (NBY.out.frr fr fun b h1 h2 h3 => by omega)
    have NaK := Lib.hid (NaK.out.frr fr fun b h1 h2 h3 => by omega)
    have NaV := Lib.hid (NaV.out.frr fr fun b h1 h2 h3 => by omega)
    have NaC := Lib.hid (NaC.out.frr fr fun b h1 h2 h3 => by omega)
    have HA := Lib.hid ((fr.block _ (blk_lt HA.out) (fun h => by omega)).trans HA.out)
    have NbK := Lib.hid (NbK.out.frr fr fun b h1 h2 h3 => by omega)
    have NbV := Lib.hid (NbV.out.frr fr fun b h1 h2 h3 => by omega)
    have NbC := Lib.hid (NbC.out.frr fr fun b h1 h2 h3 => by omega)
    have HBk := Lib.hid ((fr.block _ (blk_lt HBk.out) (fun h => by omega)).trans HBk.out)
    have HB := Lib.hid (HB.out.trans (fr.toBelow (fun b h => by omega) HB.out.size))
    clear z0_ z1_ z2_ y1_ y2_ y3_ z6_ z7_ z8_ z9_ z10_ z11_ z12_ z13_ z14_ ya0_ ya1_ ya2_ z18_ z19_ z20_ yb0_ yb1_ yb2_ z24_ z25_ z26_ z27_ z28_
    have Z29 := Lib.hid (Nat.le_of_eq sz.symm)
    clear fr sz
    have d10 : w18.cell? ⟨w3.heap.size, 10, none⟩ = some (.slice GC.1 GC.2.1 GC.2.2) := cell_blk HG.out 10 rfl
    have CA := Lib.hid (turn_any NC.out HH.out.byt.copy (by have := HLN.out; omega))
    go_wp2_with (fail)
    refine CA.out.mono ?_
    rintro e w19 ⟨rfl, nn, fr, sz⟩
    clear CA
    clear d10
    have NC := Lib.hid nn
    clear nn
    have z0_ := Z0.out
    have z1_ := Z1.out
    have z2_ := Z2.out
    have y1_ := Y1.out
    have y2_ := Y2.out
    have y3_ := Y3.out
    have z6_ := Z6.out
    have z7_ := Z7.out
    have z8_ := Z8.out
    have z9_ := Z9.out
    have z10_ := Z10.out
    have z11_ := Z11.out
    have z12_ := Z12.out
    have z13_ := Z13.out
    have z14_ := Z14.out
    have ya0_ := Ya0.out
    have ya1_ := Ya1.out
    have ya2_ := Ya2.out
    have z18_ := Z18.out
    have z19_ := Z19.out
    have z20_ := Z20.out
    have yb0_ := Yb0.out
    have yb1_ := Yb1.out
    have yb2_ := Yb2.out
    have z24_ := Z24.out
    have z25_ := Z25.out
    have z26_ := Z26.out
    have z27_ := Z27.out
    have z28_ := Z28.out
    have z29_ := Z29.out
    have HX := Lib.hid ((fr.block _ (blk_lt HX.out) (fun h => by omega)).trans HX.out)
    have HQ := Lib.hid ((fr.block _ (blk_lt HQ.out) (fun h => by omega)).trans HQ.out)
    have NK := Lib.hid (NK.out.frr fr fun b h1 h2 h3 => by omega)
    have NV := Lib.hid (NV.out.frr fr fun b h1 h2 h3 => by omega)
    have HG := Lib.hid ((fr.block _ (blk_lt HG.out) (fun h => by omega)).trans HG.out)
    have NP := Lib.hid (NP.out.frr fr fun b h1 h2 h3 => by omega)
    have NQ := Lib.hid (NQ.out.frr fr fun b h1 h2 h3 => by omega)
    have NW := Lib.hid (NW.out.frr fr fun b h1 h2 h3 => by omega)
    have NBY := Lib.hid (NBY.out.frr fr fun b h1 h2 h3 => by omega)
    have NaK := Lib.hid (NaK.out.frr fr fun b h1 h2 h3 => by omega)
    have NaV := Lib.hid (NaV.out.frr fr fun b h1 h2 h3 => by omega)
    have NaC := Lib.hid (NaC.out.frr fr fun b h1 h2 h3 => by omega)
    have HA := Lib.hid ((fr.block _ (blk_lt HA.out) (fun h => by omega)).trans HA.out)
    have NbK := Lib.hid (NbK.out.frr fr fun b h1 h2 h3 => by omega)
    have NbV := Lib.hid (NbV.out.frr fr fun b h1 h2 h3 => by omega)
    have NbC := Lib.hid (NbC.out.frr fr fun b h1 h2 h3 => by omega)
    have HBk := Lib.hid ((fr.block _ (blk_lt HBk.out) (fun h => by omega)).trans HBk.out)
    have HB := Lib.hid (HB.out.trans (fr.toBelow (fun b h => by omega) HB.out.size))
    clear z0_ z1_ z2_ y1_ y2_ y3_ z6_ z7_ z8_ z9_ z10_ z11_ z12_ z13_ z14_ ya0_ ya1_ ya2_ z18_ z19_ z20_ yb0_ yb1_ yb2_ z24_ z25_ z26_ z27_ z28_ z29_
    have Z30 := Lib.hid (Nat.le_of_eq sz.symm)
    clear fr sz
    have d0 : w19.cell? ⟨w3.heap.size, 0, none⟩ = some (.int .i64 r.kind) := cell_blk HG.out 0 rfl
    have d1 : w19.cell? ⟨w3.heap.size, 1, none⟩ = some (.int .i64 r.shard) := cell_blk HG.out 1 rfl
    have d2 : w19.cell? ⟨w3.heap.size, 2, none⟩ = some (.int .i64 r.epoch) := cell_blk HG.out 2 rfl
    have d3 : w19.cell? ⟨w3.heap.size, 3, none⟩ = some (.int .i64 r.peer) := cell_blk HG.out 3 rfl
    have d4 : w19.cell? ⟨w3.heap.size, 4, none⟩ = some (.int .i64 r.client) := cell_blk HG.out 4 rfl
    have d5 : w19.cell? ⟨w3.heap.size, 5, none⟩ = some (.int .i64 r.seq) := cell_blk HG.out 5 rfl
    have d6 : w19.cell? ⟨w3.heap.size, 6, none⟩ = some (.int .i64 r.op.kind) := cell_blk HG.out 6 rfl
    have d7 : w19.cell? ⟨w3.heap.size, 7, none⟩ = some (.slice GK.1 GK.2.1 GK.2.2) := cell_blk HG.out 7 rfl
    have d8 : w19.cell? ⟨w3.heap.size, 8, none⟩ = some (.slice GV.1 GV.2.1 GV.2.2) := cell_blk HG.out 8 rfl
    have d9 : w19.cell? ⟨w3.heap.size, 9, none⟩ = some (.int .i64 r.op.rev) := cell_blk HG.out 9 rfl
    have d10 : w19.cell? ⟨w3.heap.size, 10, none⟩ = some (.slice GC.1 GC.2.1 GC.2.2) := cell_blk HG.out 10 rfl
    have hm : m1 ≤ w19.heap.size ∧ m2 ≤ w19.heap.size ∧ w3.heap.size ≤ w19.heap.size := (by have z0_ := Z0.out; have z1_ := Z1.out; have z2_ := Z2.out; have y1_ := Y1.out; have y2_ := Y2.out; have y3_ := Y3.out; have z6_ := Z6.out; have z7_ := Z7.out; have z8_ := Z8.out; have z9_ := Z9.out; have z10_ := Z10.out; have z11_ := Z11.out; have z12_ := Z12.out; have z13_ := Z13.out; have z14_ := Z14.out; have ya0_ := Ya0.out; have ya1_ := Ya1.out; have ya2_ := Ya2.out; have z18_ := Z18.out; have z19_ := Z19.out; have z20_ := Z20.out; have yb0_ := Yb0.out; have yb1_ := Yb1.out; have yb2_ := Yb2.out; have z24_ := Z24.out; have z25_ := Z25.out; have z26_ := Z26.out; have z27_ := Z27.out; have z28_ := Z28.out; have z29_ := Z29.out; have z30_ := Z30.out; omega)
    have CA := Lib.hid (enc_s (turnR_sound HSO.out) (turnR_wf HH.out.wf) (turnR_byt HH.out.byt) NK.out NV.out NC.out hm)
    rw [turnR_recV] at CA
    unfold recV recCells at CA
    clear hm
    go_wp2_with (fail)
    refine CA.out.mono ?_
    rintro e w20 ⟨X, rfl, nX, hb⟩
    clear CA
    have Z31 := Lib.hid hb.size
    have HX := Lib.hid (blk_below HX.out hb)
    have HQ := Lib.hid (blk_below HQ.out hb)
    have NK := Lib.hid (NK.out.blw hb)
    have NV := Lib.hid (NV.out.blw hb)
    have NC := Lib.hid (NC.out.blw hb)
    have HG := Lib.hid (blk_below HG.out hb)
    have NP := Lib.hid (NP.out.blw hb)
    have NQ := Lib.hid (NQ.out.blw hb)
    have NW := Lib.hid (NW.out.blw hb)
    have NBY := Lib.hid (NBY.out.blw hb)
    have NaK := Lib.hid (NaK.out.blw hb)
    have NaV := Lib.hid (NaV.out.blw hb)
    have NaC := Lib.hid (NaC.out.blw hb)
    have HA := Lib.hid (blk_below HA.out hb)
    have NbK := Lib.hid (NbK.out.blw hb)
    have NbV := Lib.hid (NbV.out.blw hb)
    have NbC := Lib.hid (NbC.out.blw hb)
    have HBk := Lib.hid (blk_below HBk.out hb)
    have HB := Lib.hid (HB.out.trans (hb.mono HB.out.size))
    clear hb
    have NX := Lib.hid nX
    clear nX
    clear d0 d1 d2 d3 d4 d5 d6 d7 d8 d9 d10
    obtain ⟨n2, hn2⟩ : ∃ n, (formR (turnR r)).length = n := ⟨_, rfl⟩
    have HN2 := Lib.hid hn2
    have hn23 : n2 ≤ 300000 := by rw [← hn2]; exact HFT.out
    rw [hn2]
    clear hn2
    have d0 : w20.cell? ⟨w3.heap.size, 0, none⟩ = some (.int .i64 r.kind) := cell_blk HG.out 0 rfl
    have d1 : w20.cell? ⟨w3.heap.size, 1, none⟩ = some (.int .i64 r.shard) := cell_blk HG.out 1 rfl
    have d2 : w20.cell? ⟨w3.heap.size, 2, none⟩ = some (.int .i64 r.epoch) := cell_blk HG.out 2 rfl
    have d3 : w20.cell? ⟨w3.heap.size, 3, none⟩ = some (.int .i64 r.peer) := cell_blk HG.out 3 rfl
    have d4 : w20.cell? ⟨w3.heap.size, 4, none⟩ = some (.int .i64 r.client) := cell_blk HG.out 4 rfl
    have d5 : w20.cell? ⟨w3.heap.size, 5, none⟩ = some (.int .i64 r.seq) := cell_blk HG.out 5 rfl
    have d6 : w20.cell? ⟨w3.heap.size, 6, none⟩ = some (.int .i64 r.op.kind) := cell_blk HG.out 6 rfl
    have d7 : w20.cell? ⟨w3.heap.size, 7, none⟩ = some (.slice GK.1 GK.2.1 GK.2.2) := cell_blk HG.out 7 rfl
    have d8 : w20.cell? ⟨w3.heap.size, 8, none⟩ = some (.slice GV.1 GV.2.1 GV.2.2) := cell_blk HG.out 8 rfl
    have d9 : w20.cell? ⟨w3.heap.size, 9, none⟩ = some (.int .i64 r.op.rev) := cell_blk HG.out 9 rfl
    have d10 : w20.cell? ⟨w3.heap.size, 10, none⟩ = some (.slice GC.1 GC.2.1 GC.2.2) := cell_blk HG.out 10 rfl
    have hm : m1 ≤ w20.heap.size ∧ m2 ≤ w20.heap.size ∧ w3.heap.size ≤ w20.heap.size := (by have z0_ := Z0.out; have z1_ := Z1.out; have z2_ := Z2.out; have y1_ := Y1.out; have y2_ := Y2.out; have y3_ := Y3.out; have z6_ := Z6.out; have z7_ := Z7.out; have z8_ := Z8.out; have z9_ := Z9.out; have z10_ := Z10.out; have z11_ := Z11.out; have z12_ := Z12.out; have z13_ := Z13.out; have z14_ := Z14.out; have ya0_ := Ya0.out; have ya1_ := Ya1.out; have ya2_ := Ya2.out; have z18_ := Z18.out; have z19_ := Z19.out; have z20_ := Z20.out; have yb0_ := Yb0.out; have yb1_ := Yb1.out; have yb2_ := Yb2.out; have z24_ := Z24.out; have z25_ := Z25.out; have z26_ := Z26.out; have z27_ := Z27.out; have z28_ := Z28.out; have z29_ := Z29.out; have z30_ := Z30.out; have z31_ := Z31.out; omega)
    have CA := Lib.hid (rsize_any (turnR_wf HH.out.wf) (turnR_byt HH.out.byt) (K := GK) (V := GV) (C := GC) (NK.out.slAt.mono hm.1) (NV.out.slAt.mono hm.2.1) NC.out.1)
    rw [turnR_recV] at CA
    unfold recV recCells RSizeP at CA
    rw [show sizeR (turnR r) = (((formR (turnR r)).length : Int), 0) from if_pos (turnR_sound HSO.out), HN2.out] at CA
    clear hm
    go_wp2_with (fail)
    refine CA.out.mono ?_
    rintro e w21 ⟨hb, rfl⟩
    clear CA
    have Z32 := Lib.hid hb.size
    have HX := Lib.hid (blk_below HX.out hb)
    have HQ := Lib.hid (blk_below HQ.out hb)
    have NK := Lib.hid (NK.out.blw hb)
    have NV := Lib.hid (NV.out.blw hb)
    have NC := Lib.hid (NC.out.blw hb)
    have HG := Lib.hid (blk_below HG.out hb)
    have NP := Lib.hid (NP.out.blw hb)
    have NQ := Lib.hid (NQ.out.blw hb)
    have NW := Lib.hid (NW.out.blw hb)
    have NBY := Lib.hid (NBY.out.blw hb)
    have NaK := Lib.hid (NaK.out.blw hb)
    have NaV := Lib.hid (NaV.out.blw hb)
    have NaC := Lib.hid (NaC.out.blw hb)
    have HA := Lib.hid (blk_below HA.out hb)
    have NbK := Lib.hid (NbK.out.blw hb)
    have NbV := Lib.hid (NbV.out.blw hb)
    have NbC := Lib.hid (NbC.out.blw hb)
    have HBk := Lib.hid (blk_below HBk.out hb)
    have NX := Lib.hid (NX.out.blw hb)
    have HB := Lib.hid (HB.out.trans (hb.mono HB.out.size))
    clear hb
    clear d0 d1 d2 d3 d4 d5 d6 d7 d8 d9 d10
    have d0 : w21.cell? ⟨w3.heap.size, 0, none⟩ = some (.int .i64 r.kind) := cell_blk HG.out 0 rfl
    have d1 : w21.cell? ⟨w3.heap.size, 1, none⟩ = some (.int .i64 r.shard) := cell_blk HG.out 1 rfl
    have d2 : w21.cell? ⟨w3.heap.size, 2, none⟩ = some (.int .i64 r.epoch) := cell_blk HG.out 2 rfl
    have d3 : w21.cell? ⟨w3.heap.size, 3, none⟩ = some (.int .i64 r.peer) := cell_blk HG.out 3 rfl
    have d4 : w21.cell? ⟨w3.heap.size, 4, none⟩ = some (.int .i64 r.client) := cell_blk HG.out 4 rfl
    have d5 : w21.cell? ⟨w3.heap.size, 5, none⟩ = some (.int .i64 r.seq) := cell_blk HG.out 5 rfl
    have d6 : w21.cell? ⟨w3.heap.size, 6, none⟩ = some (.int .i64 r.op.kind) := cell_blk HG.out 6 rfl
    have d7 : w21.cell? ⟨w3.heap.size, 7, none⟩ = some (.slice GK.1 GK.2.1 GK.2.2) := cell_blk HG.out 7 rfl
    have d8 : w21.cell? ⟨w3.heap.size, 8, none⟩ = some (.slice GV.1 GV.2.1 GV.2.2) := cell_blk HG.out 8 rfl
    have d9 : w21.cell? ⟨w3.heap.size, 9, none⟩ = some (.int .i64 r.op.rev) := cell_blk HG.out 9 rfl
    have d10 : w21.cell? ⟨w3.heap.size, 10, none⟩ = some (.slice GC.1 GC.2.1 GC.2.2) := cell_blk HG.out 10 rfl
    have hm : m1 ≤ w21.heap.size ∧ m2 ≤ w21.heap.size ∧ w3.heap.size ≤ w21.heap.size := (by have z0_ := Z0.out; have z1_ := Z1.out; have z2_ := Z2.out; have y1_ := Y1.out; have y2_ := Y2.out; have y3_ := Y3.out; have z6_ := Z6.out; have z7_ := Z7.out; have z8_ := Z8.out; have z9_ := Z9.out; have z10_ := Z10.out; have z11_ := Z11.out; have z12_ := Z12.out; have z13_ := Z13.out; have z14_ := Z14.out; have ya0_ := Ya0.out; have ya1_ := Ya1.out; have ya2_ := Ya2.out; have z18_ := Z18.out; have z19_ := Z19.out; have z20_ := Z20.out; have yb0_ := Yb0.out; have yb1_ := Yb1.out; have yb2_ := Yb2.out; have z24_ := Z24.out; have z25_ := Z25.out; have z26_ := Z26.out; have z27_ := Z27.out; have z28_ := Z28.out; have z29_ := Z29.out; have z30_ := Z30.out; have z31_ := Z31.out; have z32_ := Z32.out; omega)
    have RT := Lib.hid (show RecIn w21 (turnR r) GK GV GC from ⟨turnR_wf HH.out.wf, turnR_byt HH.out.byt, NK.out.slAt.mono hm.1, NV.out.slAt.mono hm.2.1, NC.out.slAt.mono hm.2.2, by simp only [turnR, List.length_map]; exact HH.out.lk, by simp only [turnR, List.length_map]; exact HH.out.lv, by simp only [turnR, List.length_map]; exact HH.out.lc⟩)
    have CA := Lib.hid (lentRec_sep RT.out)
    rw [turnR_recV] at CA
    unfold recV recCells at CA
    clear hm
    go_wp2_with (fail)
    refine CA.out.mono ?_
    rintro e w22 ⟨TK, TV, TC, t1, t2, rfl, y1, y2, y3, nK, nV, nC, hb⟩
    clear CA
    have Z33 := Lib.hid hb.size
    have HX := Lib.hid (blk_below HX.out hb)
    have HQ := Lib.hid (blk_below HQ.out hb)
    have NK := Lib.hid (NK.out.blw hb)
    have NV := Lib.hid (NV.out.blw hb)
    have NC := Lib.hid (NC.out.blw hb)
    have HG := Lib.hid (blk_below HG.out hb)
    have NP := Lib.hid (NP.out.blw hb)
    have NQ := Lib.hid (NQ.out.blw hb)
    have NW := Lib.hid (NW.out.blw hb)
    have NBY := Lib.hid (NBY.out.blw hb)
    have NaK := Lib.hid (NaK.out.blw hb)
    have NaV := Lib.hid (NaV.out.blw hb)
    have NaC := Lib.hid (NaC.out.blw hb)
    have HA := Lib.hid (blk_below HA.out hb)
    have NbK := Lib.hid (NbK.out.blw hb)
    have NbV := Lib.hid (NbV.out.blw hb)
    have NbC := Lib.hid (NbC.out.blw hb)
    have HBk := Lib.hid (blk_below HBk.out hb)
    have NX := Lib.hid (NX.out.blw hb)
    have HB := Lib.hid (HB.out.trans (hb.mono HB.out.size))
    clear hb
    clear d0 d1 d2 d3 d4 d5 d6 d7 d8 d9 d10
    clear RT
    have CA := Lib.hid (enc_s (turnR_sound HSO.out) (turnR_wf HH.out.wf) (turnR_byt HH.out.byt) nK nV nC ⟨by omega, by omega, by omega⟩)
    rw [HN2.out] at CA
    unfold recV recCells at CA
    simp only [turnR] at CA
    clear y1 y2 y3 nK nV nC
    go_wp2_with (fail)
    refine CA.out.mono ?_
    rintro e w23 ⟨Y, rfl, nY, hb⟩
    clear CA
    have Z34 := Lib.hid hb.size
    have HX := Lib.hid (blk_below HX.out hb)
    have HQ := Lib.hid (blk_below HQ.out hb)
    have NK := Lib.hid (NK.out.blw hb)
    have NV := Lib.hid (NV.out.blw hb)
    have NC := Lib.hid (NC.out.blw hb)
    have HG := Lib.hid (blk_below HG.out hb)
    have NP := Lib.hid (NP.out.blw hb)
    have NQ := Lib.hid (NQ.out.blw hb)
    have NW := Lib.hid (NW.out.blw hb)
    have NBY := Lib.hid (NBY.out.blw hb)
    have NaK := Lib.hid (NaK.out.blw hb)
    have NaV := Lib.hid (NaV.out.blw hb)
    have NaC := Lib.hid (NaC.out.blw hb)
    have HA := Lib.hid (blk_below HA.out hb)
    have NbK := Lib.hid (NbK.out.blw hb)
    have NbV := Lib.hid (NbV.out.blw hb)
    have NbC := Lib.hid (NbC.out.blw hb)
    have HBk := Lib.hid (blk_below HBk.out hb)
    have NX := Lib.hid (NX.out.blw hb)
    have HB := Lib.hid (HB.out.trans (hb.mono HB.out.size))
    clear hb
    have nY2 : NewIn w23 w22.heap.size w23.heap.size Y (formR (turnR r)) := nY
    have NY := Lib.hid nY2
    clear nY nY2
    have eBY := NBY.out.1
    rw [HN.out] at eBY
    obtain ⟨bA, bn, bZ⟩ := BY
    simp only at eBY
    subst eBY
    have fl : Hid (∀ k : Nat, k ≤ bn → k ≤ (formR r).length) := Lib.hid (fun k hk => by rw [HN.out]; exact hk)
    go_wp2_with (fail)
    refine wp_loop_ghost_k (fun (a : Nat) (ac : Act) (wr : World) => ∃ u0 u1 u3 u7 u9 u13 u15 u23 u24 u25 u26 u27 u28 u29 u30 u31 u32 u33 u34 u35 u36 u37 u38 u39 u40 u41 u42 u43 u44 u45 u46 u47 u48 u49 u50 u51 u52 u53 u54 u55 u56 u57 u58 u59 u60 u61 u62 u63 u64 u65 u66 u67 u68 u69 u70 u71 u72 u73 u74 u75 u76 u77 u78 u79 u80 u81 u82 u83 u84 u85 u86 u87 u88 u89 u90 u91 u92 u93 u94 u95 u96 u97 u98 u99 u100 u101 u102 u103 u104 u105 u106 u107 u108 u109 u110 u111 u112 u113 u114 u115 u116 u117 u118 u119 u120 u121 u122 u123 u124 u125 u126 u127 u128 u129 u130 u131 u132 u133 u134 u135 u136 u137 u138 u139 u140 u141 u142 u143 u144 u145 u146 u147 u148 u149 u150 u151 u152 u153 u154 u155 u156 u157 u158 u159 u160 u161 u162 u163 u164 u165 u166 u167 u168 u169 u170 u171 u172 u173 u174 u175 u176 u177 u178 u179 u180 u181 u182 u183 u184 u185 u186 u187 u188 u189 u190 u191 u192 u193 u194 u195 u196 u197 u198 u199 u200 u201 u202 u203 u204 u205 u206 u207 u208 u209 u210 u211 u212 u213 u214 u215 v22 : Value, (∃ k : Nat, a + k = bn ∧ v22 = .int .i64 k ∧ NewIn wr w9.heap.size w10.heap.size (bA, bn, bZ) (List.replicate k 255 ++ (formR r).drop k) ∧ Fr (fun b => w9.heap.size ≤ b ∧ b < w10.heap.size) w23 wr ∧ wr.heap.size = w23.heap.size) ∧ ac = ({ tmps := #[u0, u1, .pointer (some ⟨w.heap.size, 0, none⟩), u3, .bool false, .pointer (some ⟨w3.heap.size, 0, none⟩), .slice P.1 bn P.2.2, u7, .slice Q.1 bn Q.2.2, u9, .slice AW bn cW, .slice bA bn bZ, .pointer (some ⟨w11.heap.size, 0, none⟩), u13, .pointer (some ⟨w13.heap.size, 0, none⟩), u15, .slice X.1 n2 X.2.2, .int .i64 0, .int .i64 n2, .int .i64 0, .slice Y.1 n2 Y.2.2, .int .i64 0, v22, u23, u24, u25, u26, u27, u28, u29, u30, u31, u32, u33, u34, u35, u36, u37, u38, u39, u40, u41, u42, u43, u44, u45, u46, u47, u48, u49, u50, u51, u52, u53, u54, u55, u56, u57, u58, u59, u60, u61, u62, u63, u64, u65, u66, u67, u68, u69, u70, u71, u72, u73, u74, u75, u76, u77, u78, u79, u80, u81, u82, u83, u84, u85, u86, u87, u88, u89, u90, u91, u92, u93, u94, u95, u96, u97, u98, u99, u100, u101, u102, u103, u104, u105, u106, u107, u108, u109, u110, u111, u112, u113, u114, u115, u116, u117, u118, u119, u120, u121, u122, u123, u124, u125, u126, u127, u128, u129, u130, u131, u132, u133, u134, u135, u136, u137, u138, u139, u140, u141, u142, u143, u144, u145, u146, u147, u148, u149, u150, u151, u152, u153, u154, u155, u156, u157, u158, u159, u160, u161, u162, u163, u164, u165, u166, u167, u168, u169, u170, u171, u172, u173, u174, u175, u176, u177, u178, u179, u180, u181, u182, u183, u184, u185, u186, u187, u188, u189, u190, u191, u192, u193, u194, u195, u196, u197, u198, u199, u200, u201, u202, u203, u204, u205, u206, u207, u208, u209, u210, u211, u212, u213, u214, u215], defers := [] } : Act)) (bn) ?atStart ?round
    case' atStart => ((repeat apply Exists.intro); refine ⟨?_, rfl⟩)
    case' round => (intro a ac wr hcut; obtain ⟨u0, hcut⟩ := hcut; obtain ⟨u1, hcut⟩ := hcut; obtain ⟨u3, hcut⟩ := hcut; obtain ⟨u7, hcut⟩ := hcut; obtain ⟨u9, hcut⟩ := hcut; obtain ⟨u13, hcut⟩ := hcut; obtain ⟨u15, hcut⟩ := hcut; obtain ⟨u23, hcut⟩ := hcut; obtain ⟨u24, hcut⟩ := hcut; obtain ⟨u25, hcut⟩ := hcut; obtain ⟨u26, hcut⟩ := hcut; obtain ⟨u27, hcut⟩ := hcut; obtain ⟨u28, hcut⟩ := hcut; obtain ⟨u29, hcut⟩ := hcut; obtain ⟨u30, hcut⟩ := hcut; obtain ⟨u31, hcut⟩ := hcut; obtain ⟨u32, hcut⟩ := hcut; obtain ⟨u33, hcut⟩ := hcut; obtain ⟨u34, hcut⟩ := hcut; obtain ⟨u35, hcut⟩ := hcut; obtain ⟨u36, hcut⟩ := hcut; obtain ⟨u37, hcut⟩ := hcut; obtain ⟨u38, hcut⟩ := hcut; obtain ⟨u39, hcut⟩ := hcut; obtain ⟨u40, hcut⟩ := hcut; obtain ⟨u41, hcut⟩ := hcut; obtain ⟨u42, hcut⟩ := hcut; obtain ⟨u43, hcut⟩ := hcut; obtain ⟨u44, hcut⟩ := hcut; obtain ⟨u45, hcut⟩ := hcut; obtain ⟨u46, hcut⟩ := hcut; obtain ⟨u47, hcut⟩ := hcut; obtain ⟨u48, hcut⟩ := hcut; obtain ⟨u49, hcut⟩ := hcut; obtain ⟨u50, hcut⟩ := hcut; obtain ⟨u51, hcut⟩ := hcut; obtain ⟨u52, hcut⟩ := hcut; obtain ⟨u53, hcut⟩ := hcut; obtain ⟨u54, hcut⟩ := hcut; obtain ⟨u55, hcut⟩ := hcut; obtain ⟨u56, hcut⟩ := hcut; obtain ⟨u57, hcut⟩ := hcut; obtain ⟨u58, hcut⟩ := hcut; obtain ⟨u59, hcut⟩ := hcut; obtain ⟨u60, hcut⟩ := hcut; obtain ⟨u61, hcut⟩ := hcut; obtain ⟨u62, hcut⟩ := hcut; obtain ⟨u63, hcut⟩ := hcut; obtain ⟨u64, hcut⟩ := hcut; obtain ⟨u65, hcut⟩ := hcut; obtain ⟨u66, hcut⟩ := hcut; obtain ⟨u67, hcut⟩ := hcut; obtain ⟨u68, hcut⟩ := hcut; obtain ⟨u69, hcut⟩ := hcut; obtain ⟨u70, hcut⟩ := hcut; obtain ⟨u71, hcut⟩ := hcut; obtain ⟨u72, hcut⟩ := hcut; obtain ⟨u73, hcut⟩ := hcut; obtain ⟨u74, hcut⟩ := hcut; obtain ⟨u75, hcut⟩ := hcut; obtain ⟨u76, hcut⟩ := hcut; obtain ⟨u77, hcut⟩ := hcut; obtain ⟨u78, hcut⟩ := hcut; obtain ⟨u79, hcut⟩ := hcut; obtain ⟨u80, hcut⟩ := hcut; obtain ⟨u81, hcut⟩ := hcut; obtain ⟨u82, hcut⟩ := hcut; obtain ⟨u83, hcut⟩ := hcut; obtain ⟨u84, hcut⟩ := hcut; obtain ⟨u85, hcut⟩ := hcut; obtain ⟨u86, hcut⟩ := hcut; obtain ⟨u87, hcut⟩ := hcut; obtain ⟨u88, hcut⟩ := hcut; obtain ⟨u89, hcut⟩ := hcut; obtain ⟨u90, hcut⟩ := hcut; obtain ⟨u91, hcut⟩ := hcut; obtain ⟨u92, hcut⟩ := hcut; obtain ⟨u93, hcut⟩ := hcut; obtain ⟨u94, hcut⟩ := hcut; obtain ⟨u95, hcut⟩ := hcut; obtain ⟨u96, hcut⟩ := hcut; obtain ⟨u97, hcut⟩ := hcut; obtain ⟨u98, hcut⟩ := hcut; obtain ⟨u99, hcut⟩ := hcut; obtain ⟨u100, hcut⟩ := hcut; obtain ⟨u101, hcut⟩ := hcut; obtain ⟨u102, hcut⟩ := hcut; obtain ⟨u103, hcut⟩ := hcut; obtain ⟨u104, hcut⟩ := hcut; obtain ⟨u105, hcut⟩ := hcut; obtain ⟨u106, hcut⟩ := hcut; obtain ⟨u107, hcut⟩ := hcut; obtain ⟨u108, hcut⟩ := hcut; obtain ⟨u109, hcut⟩ := hcut; obtain ⟨u110, hcut⟩ := hcut; obtain ⟨u111, hcut⟩ := hcut; obtain ⟨u112, hcut⟩ := hcut; obtain ⟨u113, hcut⟩ := hcut; obtain ⟨u114, hcut⟩ := hcut; obtain ⟨u115, hcut⟩ := hcut; obtain ⟨u116, hcut⟩ := hcut; obtain ⟨u117, hcut⟩ := hcut; obtain ⟨u118, hcut⟩ := hcut; obtain ⟨u119, hcut⟩ := hcut; obtain ⟨u120, hcut⟩ := hcut; obtain ⟨u121, hcut⟩ := hcut; obtain ⟨u122, hcut⟩ := hcut; obtain ⟨u123, hcut⟩ := hcut; obtain ⟨u124, hcut⟩ := hcut; obtain ⟨u125, hcut⟩ := hcut; obtain ⟨u126, hcut⟩ := hcut; obtain ⟨u127, hcut⟩ := hcut; obtain ⟨u128, hcut⟩ := hcut; obtain ⟨u129, hcut⟩ := hcut; obtain ⟨u130, hcut⟩ := hcut; obtain ⟨u131, hcut⟩ := hcut; obtain ⟨u132, hcut⟩ := hcut; obtain ⟨u133, hcut⟩ := hcut; obtain ⟨u134, hcut⟩ := hcut; obtain ⟨u135, hcut⟩ := hcut; obtain ⟨u136, hcut⟩ := hcut; obtain ⟨u137, hcut⟩ := hcut; obtain ⟨u138, hcut⟩ := hcut; obtain ⟨u139, hcut⟩ := hcut; obtain ⟨u140, hcut⟩ := hcut; obtain ⟨u141, hcut⟩ := hcut; obtain ⟨u142, hcut⟩ := hcut; obtain ⟨u143, hcut⟩ := hcut; obtain ⟨u144, hcut⟩ := hcut; obtain ⟨u145, hcut⟩ := hcut; obtain ⟨u146, hcut⟩ := hcut; obtain ⟨u147, hcut⟩ := hcut; obtain ⟨u148, hcut⟩ := hcut; obtain ⟨u149, hcut⟩ := hcut; obtain ⟨u150, hcut⟩ := hcut; obtain ⟨u151, hcut⟩ := hcut; obtain ⟨u152, hcut⟩ := hcut; obtain ⟨u153, hcut⟩ := hcut; obtain ⟨u154, hcut⟩ := hcut; obtain ⟨u155, hcut⟩ := hcut; obtain ⟨u156, hcut⟩ := hcut; obtain ⟨u157, hcut⟩ := hcut; obtain ⟨u158, hcut⟩ := hcut; obtain ⟨u159, hcut⟩ := hcut; obtain ⟨u160, hcut⟩ := hcut; obtain ⟨u161, hcut⟩ := hcut; obtain ⟨u162, hcut⟩ := hcut; obtain ⟨u163, hcut⟩ := hcut; obtain ⟨u164, hcut⟩ := hcut; obtain ⟨u165, hcut⟩ := hcut; obtain ⟨u166, hcut⟩ := hcut; obtain ⟨u167, hcut⟩ := hcut; obtain ⟨u168, hcut⟩ := hcut; obtain ⟨u169, hcut⟩ := hcut; obtain ⟨u170, hcut⟩ := hcut; obtain ⟨u171, hcut⟩ := hcut; obtain ⟨u172, hcut⟩ := hcut; obtain ⟨u173, hcut⟩ := hcut; obtain ⟨u174, hcut⟩ := hcut; obtain ⟨u175, hcut⟩ := hcut; obtain ⟨u176, hcut⟩ := hcut; obtain ⟨u177, hcut⟩ := hcut; obtain ⟨u178, hcut⟩ := hcut; obtain ⟨u179, hcut⟩ := hcut; obtain ⟨u180, hcut⟩ := hcut; obtain ⟨u181, hcut⟩ := hcut; obtain ⟨u182, hcut⟩ := hcut; obtain ⟨u183, hcut⟩ := hcut; obtain ⟨u184, hcut⟩ := hcut; obtain ⟨u185, hcut⟩ := hcut; obtain ⟨u186, hcut⟩ := hcut; obtain ⟨u187, hcut⟩ := hcut; obtain ⟨u188, hcut⟩ := hcut; obtain ⟨u189, hcut⟩ := hcut; obtain ⟨u190, hcut⟩ := hcut; obtain ⟨u191, hcut⟩ := hcut; obtain ⟨u192, hcut⟩ := hcut; obtain ⟨u193, hcut⟩ := hcut; obtain ⟨u194, hcut⟩ := hcut; obtain ⟨u195, hcut⟩ := hcut; obtain ⟨u196, hcut⟩ := hcut; obtain ⟨u197, hcut⟩ := hcut; obtain ⟨u198, hcut⟩ := hcut; obtain ⟨u199, hcut⟩ := hcut; obtain ⟨u200, hcut⟩ := hcut; obtain ⟨u201, hcut⟩ := hcut; obtain ⟨u202, hcut⟩ := hcut; obtain ⟨u203, hcut⟩ := hcut; obtain ⟨u204, hcut⟩ := hcut; obtain ⟨u205, hcut⟩ := hcut; obtain ⟨u206, hcut⟩ := hcut; obtain ⟨u207, hcut⟩ := hcut; obtain ⟨u208, hcut⟩ := hcut; obtain ⟨u209, hcut⟩ := hcut; obtain ⟨u210, hcut⟩ := hcut; obtain ⟨u211, hcut⟩ := hcut; obtain ⟨u212, hcut⟩ := hcut; obtain ⟨u213, hcut⟩ := hcut; obtain ⟨u214, hcut⟩ := hcut; obtain ⟨u215, hcut⟩ := hcut; obtain ⟨v22, hcut⟩ := hcut; obtain ⟨hcut, hac⟩ := hcut; subst hac; intro _ _ _ _)
    case atStart => exact ⟨0, rfl, rfl, by simpa using NBY.out, Fr.refl _ _, rfl⟩
    case round =>
      obtain ⟨k, hk, rfl, R, FR, SZ⟩ := hcut
      have HK := Lib.hid hk
      have HFR := Lib.hid FR
      have HSZ := Lib.hid SZ
      clear hk FR SZ
      by_cases hkn : k < bn
      · obtain ⟨g, hA, hg, fz, ⟨v, hv⟩, R2⟩ := R.set hkn 255
        rw [fill_step (by rw [HN.out]; exact hkn)] at R2
        subst hA
        have HG2 := Lib.hid hg
        have HR2 := Lib.hid R2
        have q1 : (k : Int) < (bn : Int) := by omega
        clear R R2 hg
        go_wp2_with (fail)
        go_roundg (a - 1)
        case measure => have := HK.out; omega
        case rel => exact ⟨k + 1, by have := HK.out; omega, by go_num, HR2.out, HFR.out.trans (Fr.set (F := fun b => w9.heap.size ≤ b ∧ b < w10.heap.size) wr HG2.out _) fun _ _ h => h, by rw [setCell_size]; exact HSZ.out⟩
      · have hkk : k = bn := by have := HK.out; omega
        have hrep : List.replicate k 255 ++ (formR r).drop k = List.replicate bn 255 := by rw [hkk, List.drop_eq_nil_of_le (by rw [HN.out]; exact Nat.le_refl _), List.append_nil]
        rw [hrep] at R
        clear NBY
        have NBY := Lib.hid R
        have fr := HFR.out
        have sz := HSZ.out
        clear HFR HSZ R hrep hkk HK
        generalize wr = w24 at *
        have z0_ := Z0.out
        have z1_ := Z1.out
        have z2_ := Z2.out
        have y1_ := Y1.out
        have y2_ := Y2.out
        have y3_ := Y3.out
        have z6_ := Z6.out
        have z7_ := Z7.out
        have z8_ := Z8.out
        have z9_ := Z9.out
        have z10_ := Z10.out
        have z11_ := Z11.out
        have z12_ := Z12.out
        have z13_ := Z13.out
        have z14_ := Z14.out
        have ya0_ := Ya0.out
        have ya1_ := Ya1.out
        have ya2_ := Ya2.out
        have z18_ := Z18.out
        have z19_ := Z19.out
        have z20_ := Z20.out
        have yb0_ := Yb0.out
        have yb1_ := Yb1.out
        have yb2_ := Yb2.out
        have z24_ := Z24.out
        have z25_ := Z25.out
        have z26_ := Z26.out
        have z27_ := Z27.out
        have z28_ := Z28.out
        have z29_ := Z29.out
        have z30_ := Z30.out
        have z31_ := Z31.out
        have z32_ := Z32.out
        have z33_ := Z33.out
        have z34_ := Z34.out
        have HX := Lib.hid ((fr.block _ (blk_lt HX.out) (fun h => by omega)).trans HX.out)
        have HQ := Lib.hid ((fr.block _ (blk_lt HQ.out) (fun h => by omega)).trans HQ.out)
        have NK := Lib.hid (NK.out.frr fr fun b h1 h2 h3 => by omega)
        have NV := Lib.hid (NV.out.frr fr fun b h1 h2 h3 => by omega)
        have NC := Lib.hid (NC.out.frr fr fun b h1 h2 h3 => by omega)
        have HG := Lib.hid ((fr.block _ (blk_lt HG.out) (fun h => by omega)).trans HG.out)
        have NP := Lib.hid (NP.out.frr fr fun b h1 h2 h3 => by omega)
        have NQ := Lib.hid (NQ.out.frr fr fun b h1 h2 h3 => by omega)
        have NW := Lib.hid (NW.out.frr fr fun b h1 h2 h3 => by omega)
        have NaK := Lib.hid (NaK.out.frr fr fun b h1 h2 h3 => by omega)
        have NaV := Lib.hid (NaV.out.frr fr fun b h1 h2 h3 => by omega)
        have NaC := Lib.hid (NaC.out.frr fr fun b h1 h2 h3 => by omega)
        have HA := Lib.hid ((fr.block _ (blk_lt HA.out) (fun h => by omega)).trans HA.out)
        have NbK := Lib.hid (NbK.out.frr fr fun b h1 h2 h3 => by omega)
        have NbV := Lib.hid (NbV.out.frr fr fun b h1 h2 h3 => by omega)
        have NbC := Lib.hid (NbC.out.frr fr fun b h1 h2 h3 => by omega)
        have HBk := Lib.hid ((fr.block _ (blk_lt HBk.out) (fun h => by omega)).trans HBk.out)
        have NX := Lib.hid (NX.out.frr fr fun b h1 h2 h3 => by omega)
        have NY := Lib.hid (NY.out.frr fr fun b h1 h2 h3 => by omega)
        have HB := Lib.hid (HB.out.trans (fr.toBelow (fun b h => by omega) HB.out.size))
        clear z0_ z1_ z2_ y1_ y2_ y3_ z6_ z7_ z8_ z9_ z10_ z11_ z12_ z13_ z14_ ya0_ ya1_ ya2_ z18_ z19_ z20_ yb0_ yb1_ yb2_ z24_ z25_ z26_ z27_ z28_ z29_ z30_ z31_ z32_ z33_ z34_
        have Z35 := Lib.hid (Nat.le_of_eq sz.symm)
        clear fr sz
        have CA := Lib.hid (dec_z (c0 := bZ) (by rw [← HN.out]; exact HFL.out.2) hn3 NBY.out.src)
        go_wp2_with (fail)
        refine CA.out.mono ?_
        rintro e w25 ⟨zK, zV, zC, rfl, hb⟩
        clear CA
        dsimp only
        have Z36 := Lib.hid hb.size
        have HX := Lib.hid (blk_below HX.out hb)
        have HQ := Lib.hid (blk_below HQ.out hb)
        have NK := Lib.hid (NK.out.blw hb)
        have NV := Lib.hid (NV.out.blw hb)
        have NC := Lib.hid (NC.out.blw hb)
        have HG := Lib.hid (blk_below HG.out hb)
        have NP := Lib.hid (NP.out.blw hb)
        have NQ := Lib.hid (NQ.out.blw hb)
        have NW := Lib.hid (NW.out.blw hb)
        have NBY := Lib.hid (NBY.out.blw hb)
        have NaK := Lib.hid (NaK.out.blw hb)
        have NaV := Lib.hid (NaV.out.blw hb)
        have NaC := Lib.hid (NaC.out.blw hb)
        have HA := Lib.hid (blk_below HA.out hb)
        have NbK := Lib.hid (NbK.out.blw hb)
        have NbV := Lib.hid (NbV.out.blw hb)
        have NbC := Lib.hid (NbC.out.blw hb)
        have HBk := Lib.hid (blk_below HBk.out hb)
        have NX := Lib.hid (NX.out.blw hb)
        have NY := Lib.hid (NY.out.blw hb)
        have HB := Lib.hid (HB.out.trans (hb.mono HB.out.size))
        clear hb
        clear hkn
        have hb : Below w25.heap.size w25 (w25.alloc (.cells (#[.int .i64 0, .int .i64 0, .int .i64 0, .int .i64 0, .int .i64 0, .int .i64 0, .int .i64 0, .slice zK.1 zK.2.1 zK.2.2, .slice zV.1 zV.2.1 zV.2.2, .int .i64 0, .slice zC.1 zC.2.1 zC.2.2]) TRec (0, 0))) := (Below.refl _ _).alloc (Nat.le_refl _) _
        generalize hwn : w25.alloc (.cells (#[.int .i64 0, .int .i64 0, .int .i64 0, .int .i64 0, .int .i64 0, .int .i64 0, .int .i64 0, .slice zK.1 zK.2.1 zK.2.2, .slice zV.1 zV.2.1 zV.2.2, .int .i64 0, .slice zC.1 zC.2.1 zC.2.2]) TRec (0, 0)) = w26 at *
        have Z37 := Lib.hid hb.size
        have HX := Lib.hid (blk_below HX.out hb)
        have HQ := Lib.hid (blk_below HQ.out hb)
        have NK := Lib.hid (NK.out.blw hb)
        have NV := Lib.hid (NV.out.blw hb)
        have NC := Lib.hid (NC.out.blw hb)
        have HG := Lib.hid (blk_below HG.out hb)
        have NP := Lib.hid (NP.out.blw hb)
        have NQ := Lib.hid (NQ.out.blw hb)
        have NW := Lib.hid (NW.out.blw hb)
        have NBY := Lib.hid (NBY.out.blw hb)
        have NaK := Lib.hid (NaK.out.blw hb)
        have NaV := Lib.hid (NaV.out.blw hb)
        have NaC := Lib.hid (NaC.out.blw hb)
        have HA := Lib.hid (blk_below HA.out hb)
        have NbK := Lib.hid (NbK.out.blw hb)
        have NbV := Lib.hid (NbV.out.blw hb)
        have NbC := Lib.hid (NbC.out.blw hb)
        have HBk := Lib.hid (blk_below HBk.out hb)
        have NX := Lib.hid (NX.out.blw hb)
        have NY := Lib.hid (NY.out.blw hb)
        have HB := Lib.hid (HB.out.trans (hb.mono HB.out.size))
        clear hb
        have HWN := Lib.hid hwn
        clear hwn
        go_wp2_with (fail)
        rw [HWN.out]
        clear HWN
        have hxx := HN2.out
        have CA := Lib.hid (same_any (c := X.2.2) (c' := Y.2.2) NX.out.src NY.out.src (by omega) (by omega))
        rw [decide_eq_true rfl, hxx] at CA
        clear hxx
        refine CA.out.mono ?_
        rintro e w27 ⟨rfl, hb⟩
        clear CA
        dsimp only
        have Z38 := Lib.hid hb.size
        have HX := Lib.hid (blk_below HX.out hb)
        have HQ := Lib.hid (blk_below HQ.out hb)
        have NK := Lib.hid (NK.out.blw hb)
        have NV := Lib.hid (NV.out.blw hb)
        have NC := Lib.hid (NC.out.blw hb)
        have HG := Lib.hid (blk_below HG.out hb)
        have NP := Lib.hid (NP.out.blw hb)
        have NQ := Lib.hid (NQ.out.blw hb)
        have NW := Lib.hid (NW.out.blw hb)
        have NBY := Lib.hid (NBY.out.blw hb)
        have NaK := Lib.hid (NaK.out.blw hb)
        have NaV := Lib.hid (NaV.out.blw hb)
        have NaC := Lib.hid (NaC.out.blw hb)
        have HA := Lib.hid (blk_below HA.out hb)
        have NbK := Lib.hid (NbK.out.blw hb)
        have NbV := Lib.hid (NbV.out.blw hb)
        have NbC := Lib.hid (NbC.out.blw hb)
        have HBk := Lib.hid (blk_below HBk.out hb)
        have NX := Lib.hid (NX.out.blw hb)
        have NY := Lib.hid (NY.out.blw hb)
        have HB := Lib.hid (HB.out.trans (hb.mono HB.out.size))
        clear hb
        have hxx := HN.out
        have CA := Lib.hid (same_any (c := P.2.2) (c' := cW) NP.out.src NW.out.src (by omega) (by omega))
        rw [decide_eq_true rfl, hxx] at CA
        clear hxx
        go_wp2_with (fail)
        refine CA.out.mono ?_
        rintro e w28 ⟨rfl, hb⟩
        clear CA
        dsimp only
        have Z39 := Lib.hid hb.size
        have HX := Lib.hid (blk_below HX.out hb)
        have HQ := Lib.hid (blk_below HQ.out hb)
        have NK := Lib.hid (NK.out.blw hb)
        have NV := Lib.hid (NV.out.blw hb)
        have NC := Lib.hid (NC.out.blw hb)
        have HG := Lib.hid (blk_below HG.out hb)
        have NP := Lib.hid (NP.out.blw hb)
        have NQ := Lib.hid (NQ.out.blw hb)
        have NW := Lib.hid (NW.out.blw hb)
        have NBY := Lib.hid (NBY.out.blw hb)
        have NaK := Lib.hid (NaK.out.blw hb)
        have NaV := Lib.hid (NaV.out.blw hb)
        have NaC := Lib.hid (NaC.out.blw hb)
        have HA := Lib.hid (blk_below HA.out hb)
        have NbK := Lib.hid (NbK.out.blw hb)
        have NbV := Lib.hid (NbV.out.blw hb)
        have NbC := Lib.hid (NbC.out.blw hb)
        have HBk := Lib.hid (blk_below HBk.out hb)
        have NX := Lib.hid (NX.out.blw hb)
        have NY := Lib.hid (NY.out.blw hb)
        have HB := Lib.hid (HB.out.trans (hb.mono HB.out.size))
        clear hb
        have CA := Lib.hid (sameRec_any (RecLie.ofNew NaK.out NaV.out NaC.out HSO.out) (HH.out.lie.below HB.out))
        rw [show sameRB r r = true from (sameRB_iff _ _).2 rfl] at CA
        unfold recV recCells at CA
        have e0 : w28.cell? ⟨w.heap.size, 0, none⟩ = some (.int .i64 r.kind) := cell_blk HX.out 0 rfl
        have e1 : w28.cell? ⟨w.heap.size, 1, none⟩ = some (.int .i64 r.shard) := cell_blk HX.out 1 rfl
        have e2 : w28.cell? ⟨w.heap.size, 2, none⟩ = some (.int .i64 r.epoch) := cell_blk HX.out 2 rfl
        have e3 : w28.cell? ⟨w.heap.size, 3, none⟩ = some (.int .i64 r.peer) := cell_blk HX.out 3 rfl
        have e4 : w28.cell? ⟨w.heap.size, 4, none⟩ = some (.int .i64 r.client) := cell_blk HX.out 4 rfl
        have e5 : w28.cell? ⟨w.heap.size, 5, none⟩ = some (.int .i64 r.seq) := cell_blk HX.out 5 rfl
        have e6 : w28.cell? ⟨w.heap.size, 6, none⟩ = some (.int .i64 r.op.kind) := cell_blk HX.out 6 rfl
        have e7 : w28.cell? ⟨w.heap.size, 7, none⟩ = some (.slice K.1 K.2.1 K.2.2) := cell_blk HX.out 7 rfl
        have e8 : w28.cell? ⟨w.heap.size, 8, none⟩ = some (.slice V.1 V.2.1 V.2.2) := cell_blk HX.out 8 rfl
        have e9 : w28.cell? ⟨w.heap.size, 9, none⟩ = some (.int .i64 r.op.rev) := cell_blk HX.out 9 rfl
        have e10 : w28.cell? ⟨w.heap.size, 10, none⟩ = some (.slice C.1 C.2.1 C.2.2) := cell_blk HX.out 10 rfl
        have d0 : w28.cell? ⟨w11.heap.size, 0, none⟩ = some (.int .i64 r.kind) := cell_blk HA.out 0 rfl
        have d1 : w28.cell? ⟨w11.heap.size, 1, none⟩ = some (.int .i64 r.shard) := cell_blk HA.out 1 rfl
        have d2 : w28.cell? ⟨w11.heap.size, 2, none⟩ = some (.int .i64 r.epoch) := cell_blk HA.out 2 rfl
        have d3 : w28.cell? ⟨w11.heap.size, 3, none⟩ = some (.int .i64 r.peer) := cell_blk HA.out 3 rfl
        have d4 : w28.cell? ⟨w11.heap.size, 4, none⟩ = some (.int .i64 r.client) := cell_blk HA.out 4 rfl
        have d5 : w28.cell? ⟨w11.heap.size, 5, none⟩ = some (.int .i64 r.seq) := cell_blk HA.out 5 rfl
        have d6 : w28.cell? ⟨w11.heap.size, 6, none⟩ = some (.int .i64 r.op.kind) := cell_blk HA.out 6 rfl
        have d7 : w28.cell? ⟨w11.heap.size, 7, none⟩ = some (.slice aK.1 aK.2.1 aK.2.2) := cell_blk HA.out 7 rfl
        have d8 : w28.cell? ⟨w11.heap.size, 8, none⟩ = some (.slice aV.1 aV.2.1 aV.2.2) := cell_blk HA.out 8 rfl
        have d9 : w28.cell? ⟨w11.heap.size, 9, none⟩ = some (.int .i64 r.op.rev) := cell_blk HA.out 9 rfl
        have d10 : w28.cell? ⟨w11.heap.size, 10, none⟩ = some (.slice aC.1 aC.2.1 aC.2.2) := cell_blk HA.out 10 rfl
        go_wp2_with (fail)
        refine CA.out.mono ?_
        rintro e w29 ⟨rfl, hb⟩
        clear CA
        dsimp only
        have Z40 := Lib.hid hb.size
        have HX := Lib.hid (blk_below HX.out hb)
        have HQ := Lib.hid (blk_below HQ.out hb)
        have NK := Lib.hid (NK.out.blw hb)
        have NV := Lib.hid (NV.out.blw hb)
        have NC := Lib.hid (NC.out.blw hb)
        have HG := Lib.hid (blk_below HG.out hb)
        have NP := Lib.hid (NP.out.blw hb)
        have NQ := Lib.hid (NQ.out.blw hb)
        have NW := Lib.hid (NW.out.blw hb)
        have NBY := Lib.hid (NBY.out.blw hb)
        have NaK := Lib.hid (NaK.out.blw hb)
        have NaV := Lib.hid (NaV.out.blw hb)
        have NaC := Lib.hid (NaC.out.blw hb)
        have HA := Lib.hid (blk_below HA.out hb)
        have NbK := Lib.hid (NbK.out.blw hb)
        have NbV := Lib.hid (NbV.out.blw hb)
        have NbC := Lib.hid (NbC.out.blw hb)
        have HBk := Lib.hid (blk_below HBk.out hb)
        have NX := Lib.hid (NX.out.blw hb)
        have NY := Lib.hid (NY.out.blw hb)
        have HB := Lib.hid (HB.out.trans (hb.mono HB.out.size))
        clear hb
        clear e0 e1 e2 e3 e4 e5 e6 e7 e8 e9 e10
        clear d0 d1 d2 d3 d4 d5 d6 d7 d8 d9 d10
        have d7 : w29.cell? ⟨w11.heap.size, 7, none⟩ = some (.slice aK.1 aK.2.1 aK.2.2) := cell_blk HA.out 7 rfl
        have d8 : w29.cell? ⟨w11.heap.size, 8, none⟩ = some (.slice aV.1 aV.2.1 aV.2.2) := cell_blk HA.out 8 rfl
        have d10 : w29.cell? ⟨w11.heap.size, 10, none⟩ = some (.slice aC.1 aC.2.1 aC.2.2) := cell_blk HA.out 10 rfl
        have c7 : w29.cell? ⟨w13.heap.size, 7, none⟩ = some (.slice bK.1 bK.2.1 bK.2.2) := cell_blk HBk.out 7 rfl
        have c8 : w29.cell? ⟨w13.heap.size, 8, none⟩ = some (.slice bV.1 bV.2.1 bV.2.2) := cell_blk HBk.out 8 rfl
        have c10 : w29.cell? ⟨w13.heap.size, 10, none⟩ = some (.slice bC.1 bC.2.1 bC.2.2) := cell_blk HBk.out 10 rfl
        have g7 : w29.cell? ⟨w3.heap.size, 7, none⟩ = some (.slice GK.1 GK.2.1 GK.2.2) := cell_blk HG.out 7 rfl
        have g8 : w29.cell? ⟨w3.heap.size, 8, none⟩ = some (.slice GV.1 GV.2.1 GV.2.2) := cell_blk HG.out 8 rfl
        have g10 : w29.cell? ⟨w3.heap.size, 10, none⟩ = some (.slice GC.1 GC.2.1 GC.2.2) := cell_blk HG.out 10 rfl
        have nb := blk_new w29 (.cells (#[.slice P.1 bn P.2.2, .slice Q.1 bn Q.2.2, .slice X.1 n2 X.2.2, .slice Y.1 n2 Y.2.2, .slice bA bn bZ, .slice aK.1 aK.2.1 aK.2.2, .slice aV.1 aV.2.1 aV.2.2, .slice aC.1 aC.2.1 aC.2.2, .slice bK.1 bK.2.1 bK.2.2, .slice bV.1 bV.2.1 bV.2.2, .slice bC.1 bC.2.1 bC.2.2, .slice GK.1 GK.2.1 GK.2.2, .slice GV.1 GV.2.1 GV.2.2, .slice GC.1 GC.2.1 GC.2.2]) 22 (0, 0))
        have hb : Below w29.heap.size w29 (w29.alloc (.cells (#[.slice P.1 bn P.2.2, .slice Q.1 bn Q.2.2, .slice X.1 n2 X.2.2, .slice Y.1 n2 Y.2.2, .slice bA bn bZ, .slice aK.1 aK.2.1 aK.2.2, .slice aV.1 aV.2.1 aV.2.2, .slice aC.1 aC.2.1 aC.2.2, .slice bK.1 bK.2.1 bK.2.2, .slice bV.1 bV.2.1 bV.2.2, .slice bC.1 bC.2.1 bC.2.2, .slice GK.1 GK.2.1 GK.2.2, .slice GV.1 GV.2.1 GV.2.2, .slice GC.1 GC.2.1 GC.2.2]) 22 (0, 0))) := (Below.refl _ _).alloc (Nat.le_refl _) _
        go_upto_region 31 with (fail)
        generalize w29.alloc (.cells (#[.slice P.1 bn P.2.2, .slice Q.1 bn Q.2.2, .slice X.1 n2 X.2.2, .slice Y.1 n2 Y.2.2, .slice bA bn bZ, .slice aK.1 aK.2.1 aK.2.2, .slice aV.1 aV.2.1 aV.2.2, .slice aC.1 aC.2.1 aC.2.2, .slice bK.1 bK.2.1 bK.2.2, .slice bV.1 bV.2.1 bV.2.2, .slice bC.1 bC.2.1 bC.2.2, .slice GK.1 GK.2.1 GK.2.2, .slice GV.1 GV.2.1 GV.2.2, .slice GC.1 GC.2.1 GC.2.2]) 22 (0, 0)) = w30 at *
        have Z41 := Lib.hid hb.size
        have HX := Lib.hid (blk_below HX.out hb)
        have HQ := Lib.hid (blk_below HQ.out hb)
        have NK := Lib.hid (NK.out.blw hb)
        have NV := Lib.hid (NV.out.blw hb)
        have NC := Lib.hid (NC.out.blw hb)
        have HG := Lib.hid (blk_below HG.out hb)
        have NP := Lib.hid (NP.out.blw hb)
        have NQ := Lib.hid (NQ.out.blw hb)
        have NW := Lib.hid (NW.out.blw hb)
        have NBY := Lib.hid (NBY.out.blw hb)
        have NaK := Lib.hid (NaK.out.blw hb)
        have NaV := Lib.hid (NaV.out.blw hb)
        have NaC := Lib.hid (NaC.out.blw hb)
        have HA := Lib.hid (blk_below HA.out hb)
        have NbK := Lib.hid (NbK.out.blw hb)
        have NbV := Lib.hid (NbV.out.blw hb)
        have NbC := Lib.hid (NbC.out.blw hb)
        have HBk := Lib.hid (blk_below HBk.out hb)
        have NX := Lib.hid (NX.out.blw hb)
        have NY := Lib.hid (NY.out.blw hb)
        have HB := Lib.hid (HB.out.trans (hb.mono HB.out.size))
        clear hb
        have HZL := Lib.hid nb
        clear nb
        clear d7 d8 d10
        clear c7 c8 c10
        clear g7 g8 g10
        have CA := Lib.hid (dec_s (c0 := cW) HSO.out HH.out.byt NW.out)
        rw [HN.out] at CA
        unfold recV recCells at CA
        go_wp2_with (fail)
        refine CA.out.mono ?_
        rintro e w31 ⟨cK, cV, cC, mc, kc, rfl, y1, y2, y3, nK, nV, nC, hb⟩
        clear CA
        dsimp only
        have Z42 := Lib.hid hb.size
        have HX := Lib.hid (blk_below HX.out hb)
        have HQ := Lib.hid (blk_below HQ.out hb)
        have NK := Lib.hid (NK.out.blw hb)
        have NV := Lib.hid (NV.out.blw hb)
        have NC := Lib.hid (NC.out.blw hb)
        have HG := Lib.hid (blk_below HG.out hb)
        have NP := Lib.hid (NP.out.blw hb)
        have NQ := Lib.hid (NQ.out.blw hb)
        have NW := Lib.hid (NW.out.blw hb)
        have NBY := Lib.hid (NBY.out.blw hb)
        have NaK := Lib.hid (NaK.out.blw hb)
        have NaV := Lib.hid (NaV.out.blw hb)
        have NaC := Lib.hid (NaC.out.blw hb)
        have HA := Lib.hid (blk_below HA.out hb)
        have NbK := Lib.hid (NbK.out.blw hb)
        have NbV := Lib.hid (NbV.out.blw hb)
        have NbC := Lib.hid (NbC.out.blw hb)
        have HBk := Lib.hid (blk_below HBk.out hb)
        have NX := Lib.hid (NX.out.blw hb)
        have NY := Lib.hid (NY.out.blw hb)
        have HZL := Lib.hid (blk_below HZL.out hb)
        have HB := Lib.hid (HB.out.trans (hb.mono HB.out.size))
        clear hb
        have Yc0 := Lib.hid y1
        have Yc1 := Lib.hid y2
        have Yc2 := Lib.hid y3
        have NcK := Lib.hid nK
        have NcV := Lib.hid nV
        have NcC := Lib.hid nC
        clear y1 y2 y3 nK nV nC
        have nb := blk_new w31 (.cells (recCells r cK cV cC) TRec (0, 0))
        have hb : Below w31.heap.size w31 (w31.alloc (.cells (recCells r cK cV cC) TRec (0, 0))) := (Below.refl _ _).alloc (Nat.le_refl _) _
        have sb : (w31.alloc (.cells (recCells r cK cV cC) TRec (0, 0))).heap.size = w31.heap.size + 1 := World.size_alloc _ _
        generalize hwn : w31.alloc (.cells (recCells r cK cV cC) TRec (0, 0)) = w32 at *
        have Z46 := Lib.hid hb.size
        have HX := Lib.hid (blk_below HX.out hb)
        have HQ := Lib.hid (blk_below HQ.out hb)
        have NK := Lib.hid (NK.out.blw hb)
        have NV := Lib.hid (NV.out.blw hb)
        have NC := Lib.hid (NC.out.blw hb)
        have HG := Lib.hid (blk_below HG.out hb)
        have NP := Lib.hid (NP.out.blw hb)
        have NQ := Lib.hid (NQ.out.blw hb)
        have NW := Lib.hid (NW.out.blw hb)
        have NBY := Lib.hid (NBY.out.blw hb)
        have NaK := Lib.hid (NaK.out.blw hb)
        have NaV := Lib.hid (NaV.out.blw hb)
        have NaC := Lib.hid (NaC.out.blw hb)
        have HA := Lib.hid (blk_below HA.out hb)
        have NbK := Lib.hid (NbK.out.blw hb)
        have NbV := Lib.hid (NbV.out.blw hb)
        have NbC := Lib.hid (NbC.out.blw hb)
        have HBk := Lib.hid (blk_below HBk.out hb)
        have NX := Lib.hid (NX.out.blw hb)
        have NY := Lib.hid (NY.out.blw hb)
        have HZL := Lib.hid (blk_below HZL.out hb)
        have NcK := Lib.hid (NcK.out.blw hb)
        have NcV := Lib.hid (NcV.out.blw hb)
        have NcC := Lib.hid (NcC.out.blw hb)
        have HB := Lib.hid (HB.out.trans (hb.mono HB.out.size))
        clear hb
        have Z47 := Lib.hid (Nat.le_of_eq sb.symm)
        have HC := Lib.hid nb
        unfold recCells at hwn
        have HWN := Lib.hid hwn
        clear nb sb hwn
        go_upto_region 32 with (fail)
        rw [HWN.out]
        clear HWN
        have z0_ := Z0.out
        have z1_ := Z1.out
        have z2_ := Z2.out
        have y1_ := Y1.out
        have y2_ := Y2.out
        have y3_ := Y3.out
        have z6_ := Z6.out
        have z7_ := Z7.out
        have z8_ := Z8.out
        have z9_ := Z9.out
        have z10_ := Z10.out
        have z11_ := Z11.out
        have z12_ := Z12.out
        have z13_ := Z13.out
        have z14_ := Z14.out
        have ya0_ := Ya0.out
        have ya1_ := Ya1.out
        have ya2_ := Ya2.out
        have z18_ := Z18.out
        have z19_ := Z19.out
        have z20_ := Z20.out
        have yb0_ := Yb0.out
        have yb1_ := Yb1.out
        have yb2_ := Yb2.out
        have z24_ := Z24.out
        have z25_ := Z25.out
        have z26_ := Z26.out
        have z27_ := Z27.out
        have z28_ := Z28.out
        have z29_ := Z29.out
        have z30_ := Z30.out
        have z31_ := Z31.out
        have z32_ := Z32.out
        have z33_ := Z33.out
        have z34_ := Z34.out
        have z35_ := Z35.out
        have z36_ := Z36.out
        have z37_ := Z37.out
        have z38_ := Z38.out
        have z39_ := Z39.out
        have z40_ := Z40.out
        have z41_ := Z41.out
        have z42_ := Z42.out
        have yc0_ := Yc0.out
        have yc1_ := Yc1.out
        have yc2_ := Yc2.out
        have z46_ := Z46.out
        have z47_ := Z47.out
        have l1_ := HFL.out.1
        have l2_ := HFT.out
        have l3_ := HLN.out
        obtain ⟨ps, hps⟩ : ∃ ps : List Ent, ps = [⟨P, formR r, w4.heap.size, w5.heap.size⟩, ⟨Q, formR r, w6.heap.size, w7.heap.size⟩, ⟨X, formR (turnR r), w19.heap.size, w20.heap.size⟩, ⟨Y, formR (turnR r), w22.heap.size, w23.heap.size⟩, ⟨(bA, bn, bZ), List.replicate bn (255 : Int), w9.heap.size, w10.heap.size⟩, ⟨aK, r.op.key, w10.heap.size, ma⟩, ⟨aV, r.op.val, ma, ka⟩, ⟨aC, r.copy, ka, w11.heap.size⟩, ⟨bK, r.op.key, w12.heap.size, mb⟩, ⟨bV, r.op.val, mb, kb⟩, ⟨bC, r.copy, kb, w13.heap.size⟩, ⟨GK, r.op.key.map x85, w2.heap.size, m1⟩, ⟨GV, r.op.val.map x85, m1, m2⟩, ⟨GC, r.copy.map x85, m2, w3.heap.size⟩] := ⟨_, rfl⟩
        have g0 : NewIn w32 w4.heap.size w5.heap.size P (formR r) ∧ w5.heap.size ≤ w32.heap.size ∧ (formR r).length ≤ 140737488355000 := ⟨NP.out, by omega, by omega⟩
        have g1 : NewIn w32 w6.heap.size w7.heap.size Q (formR r) ∧ w7.heap.size ≤ w32.heap.size ∧ (formR r).length ≤ 140737488355000 := ⟨NQ.out, by omega, by omega⟩
        have g2 : NewIn w32 w19.heap.size w20.heap.size X (formR (turnR r)) ∧ w20.heap.size ≤ w32.heap.size ∧ (formR (turnR r)).length ≤ 140737488355000 := ⟨NX.out, by omega, by omega⟩
        have g3 : NewIn w32 w22.heap.size w23.heap.size Y (formR (turnR r)) ∧ w23.heap.size ≤ w32.heap.size ∧ (formR (turnR r)).length ≤ 140737488355000 := ⟨NY.out, by omega, by omega⟩
        have g4 : NewIn w32 w9.heap.size w10.heap.size (bA, bn, bZ) (List.replicate bn (255 : Int)) ∧ w10.heap.size ≤ w32.heap.size ∧ (List.replicate bn (255 : Int)).length ≤ 140737488355000 := ⟨NBY.out, by omega, by simp only [List.length_replicate]; omega⟩
        have g5 : NewIn w32 w10.heap.size ma aK (r.op.key) ∧ ma ≤ w32.heap.size ∧ (r.op.key).length ≤ 140737488355000 := ⟨NaK.out, by omega, by omega⟩
        have g6 : NewIn w32 ma ka aV (r.op.val) ∧ ka ≤ w32.heap.size ∧ (r.op.val).length ≤ 140737488355000 := ⟨NaV.out, by omega, by omega⟩
        have g7 : NewIn w32 ka w11.heap.size aC (r.copy) ∧ w11.heap.size ≤ w32.heap.size ∧ (r.copy).length ≤ 140737488355000 := ⟨NaC.out, by omega, by omega⟩
        have g8 : NewIn w32 w12.heap.size mb bK (r.op.key) ∧ mb ≤ w32.heap.size ∧ (r.op.key).length ≤ 140737488355000 := ⟨NbK.out, by omega, by omega⟩
        have g9 : NewIn w32 mb kb bV (r.op.val) ∧ kb ≤ w32.heap.size ∧ (r.op.val).length ≤ 140737488355000 := ⟨NbV.out, by omega, by omega⟩
        have g10 : NewIn w32 kb w13.heap.size bC (r.copy) ∧ w13.heap.size ≤ w32.heap.size ∧ (r.copy).length ≤ 140737488355000 := ⟨NbC.out, by omega, by omega⟩
        have g11 : NewIn w32 w2.heap.size m1 GK (r.op.key.map x85) ∧ m1 ≤ w32.heap.size ∧ (r.op.key.map x85).length ≤ 140737488355000 := ⟨NK.out, by omega, by simp only [List.length_map]; omega⟩
        have g12 : NewIn w32 m1 m2 GV (r.op.val.map x85) ∧ m2 ≤ w32.heap.size ∧ (r.op.val.map x85).length ≤ 140737488355000 := ⟨NV.out, by omega, by simp only [List.length_map]; omega⟩
        have g13 : NewIn w32 m2 w3.heap.size GC (r.copy.map x85) ∧ w3.heap.size ≤ w32.heap.size ∧ (r.copy.map x85).length ≤ 140737488355000 := ⟨NC.out, by omega, by simp only [List.length_map]; omega⟩
        have hgood : ∀ e ∈ ps, NewIn w32 e.lo e.hi e.s e.x ∧ e.hi ≤ w32.heap.size ∧ e.x.length ≤ 140737488355000 := by
          rw [hps]
          intro e he
          simp only [List.mem_cons, List.not_mem_nil, or_false] at he
          rcases he with rfl | rfl | rfl | rfl | rfl | rfl | rfl | rfl | rfl | rfl | rfl | rfl | rfl | rfl
          · exact g0
          · exact g1
          · exact g2
          · exact g3
          · exact g4
          · exact g5
          · exact g6
          · exact g7
          · exact g8
          · exact g9
          · exact g10
          · exact g11
          · exact g12
          · exact g13
        clear g0 g1 g2 g3 g4 g5 g6 g7 g8 g9 g10 g11 g12 g13
        have hbd : ∀ e ∈ ps, w.heap.size + 2 ≤ e.lo ∧ e.hi ≤ w29.heap.size := by
          rw [hps]
          intro e he
          simp only [List.mem_cons, List.not_mem_nil, or_false] at he
          rcases he with rfl | rfl | rfl | rfl | rfl | rfl | rfl | rfl | rfl | rfl | rfl | rfl | rfl | rfl <;> exact ⟨by simp only; omega, by simp only; omega⟩
        have hpair : ps.Pairwise fun e f => e.hi ≤ f.lo ∨ f.hi ≤ e.lo := by
          rw [hps]
          simp only [List.pairwise_cons, List.mem_cons, List.not_mem_nil, or_false, forall_eq_or_imp, forall_eq, false_implies, implies_true, List.Pairwise.nil, and_true]
          and_intros
          all_goals omega
        have eP := NP.out.1
        have eQ := NQ.out.1
        have eX := NX.out.1
        have eY := NY.out.1
        rw [HN.out] at eP eQ
        rw [HN2.out] at eX eY
        have hcur : (#[.slice P.1 bn P.2.2, .slice Q.1 bn Q.2.2, .slice X.1 n2 X.2.2, .slice Y.1 n2 Y.2.2, .slice bA bn bZ, .slice aK.1 aK.2.1 aK.2.2, .slice aV.1 aV.2.1 aV.2.2, .slice aC.1 aC.2.1 aC.2.2, .slice bK.1 bK.2.1 bK.2.2, .slice bV.1 bV.2.1 bV.2.2, .slice bC.1 bC.2.1 bC.2.2, .slice GK.1 GK.2.1 GK.2.2, .slice GV.1 GV.2.1 GV.2.2, .slice GC.1 GC.2.1 GC.2.2] : Array Value) = ((ps.map Ent.s).map fun s : SlB => Value.slice s.1 s.2.1 s.2.2).toArray := by rw [hps]; simp [eP, eQ, eX, eY]
        have hcells : ∀ (j : Nat) (s : SlB), (ps.map Ent.s)[j]? = some s → (#[.slice P.1 bn P.2.2, .slice Q.1 bn Q.2.2, .slice X.1 n2 X.2.2, .slice Y.1 n2 Y.2.2, .slice bA bn bZ, .slice aK.1 aK.2.1 aK.2.2, .slice aV.1 aV.2.1 aV.2.2, .slice aC.1 aC.2.1 aC.2.2, .slice bK.1 bK.2.1 bK.2.2, .slice bV.1 bV.2.1 bV.2.2, .slice bC.1 bC.2.1 bC.2.2, .slice GK.1 GK.2.1 GK.2.2, .slice GV.1 GV.2.1 GV.2.2, .slice GC.1 GC.2.1 GC.2.2] : Array Value)[j]? = some (.slice s.1 s.2.1 s.2.2) := fun j s hs => by rw [hcur, List.getElem?_toArray, List.getElem?_map, hs]; rfl
        have hlen : ps.length = 14 := by rw [hps]; rfl
        have CA := apart_iv (w := w32) (ps := ps) (z := w29.heap.size) (cz := 14) hgood hpair HZL.out hcells (fun e he => (hbd e he).2) (by rw [hlen]; omega)
        rw [hlen] at CA
        have CA := Lib.hid CA
        have HBD := Lib.hid hbd
        clear z0_ z1_ z2_ y1_ y2_ y3_ z6_ z7_ z8_ z9_ z10_ z11_ z12_ z13_ z14_ ya0_ ya1_ ya2_ z18_ z19_ z20_ yb0_ yb1_ yb2_ z24_ z25_ z26_ z27_ z28_ z29_ z30_ z31_ z32_ z33_ z34_ z35_ z36_ z37_ z38_ z39_ z40_ z41_ z42_ yc0_ yc1_ yc2_ z46_ z47_
        clear l1_ l2_ l3_ hgood hpair hcur hcells hlen hps eP eQ eX eY hbd
        go_wp2_with (fail)
        refine CA.out.mono ?_
        rintro e w33 ⟨rfl, fr0⟩
        clear CA
        dsimp only
        have fr := fr0.mono (G := fun b => w.heap.size + 2 ≤ b ∧ b < w29.heap.size) (fun b ⟨e, he, h1, h2⟩ => ⟨Nat.le_trans (HBD.out e he).1 h1, Nat.lt_of_lt_of_le h2 (HBD.out e he).2⟩)
        clear fr0 HBD
        have z0_ := Z0.out
        have z1_ := Z1.out
        have z2_ := Z2.out
        have y1_ := Y1.out
        have y2_ := Y2.out
        have y3_ := Y3.out
        have z6_ := Z6.out
        have z7_ := Z7.out
        have z8_ := Z8.out
        have z9_ := Z9.out
        have z10_ := Z10.out
        have z11_ := Z11.out
        have z12_ := Z12.out
        have z13_ := Z13.out
        have z14_ := Z14.out
        have ya0_ := Ya0.out
        have ya1_ := Ya1.out
        have ya2_ := Ya2.out
        have z18_ := Z18.out
        have z19_ := Z19.out
        have z20_ := Z20.out
        have yb0_ := Yb0.out
        have yb1_ := Yb1.out
        have yb2_ := Yb2.out
        have z24_ := Z24.out
        have z25_ := Z25.out
        have z26_ := Z26.out
        have z27_ := Z27.out
        have z28_ := Z28.out
        have z29_ := Z29.out
        have z30_ := Z30.out
        have z31_ := Z31.out
        have z32_ := Z32.out
        have z33_ := Z33.out
        have z34_ := Z34.out
        have z35_ := Z35.out
        have z36_ := Z36.out
        have z37_ := Z37.out
        have z38_ := Z38.out
        have z39_ := Z39.out
        have z40_ := Z40.out
        have z41_ := Z41.out
        have z42_ := Z42.out
        have yc0_ := Yc0.out
        have yc1_ := Yc1.out
        have yc2_ := Yc2.out
        have z46_ := Z46.out
        have z47_ := Z47.out
        have HX := Lib.hid ((fr.block _ (blk_lt HX.out) (fun h => by omega)).trans HX.out)
        have NcK := Lib.hid (NcK.out.frr fr fun b h1 h2 h3 => by omega)
        have NcV := Lib.hid (NcV.out.frr fr fun b h1 h2 h3 => by omega)
        have NcC := Lib.hid (NcC.out.frr fr fun b h1 h2 h3 => by omega)
        have HC := Lib.hid ((fr.block _ (blk_lt HC.out) (fun h => by omega)).trans HC.out)
        have HB := Lib.hid (HB.out.trans (fr.toBelow (fun b h => by omega) HB.out.size))
        clear fr z0_ z1_ z2_ y1_ y2_ y3_ z6_ z7_ z8_ z9_ z10_ z11_ z12_ z13_ z14_ ya0_ ya1_ ya2_ z18_ z19_ z20_ yb0_ yb1_ yb2_ z24_ z25_ z26_ z27_ z28_ z29_ z30_ z31_ z32_ z33_ z34_ z35_ z36_ z37_ z38_ z39_ z40_ z41_ z42_ yc0_ yc1_ yc2_ z46_ z47_
        have CA := Lib.hid (sameRec_any (RecLie.ofNew NcK.out NcV.out NcC.out HSO.out) (HH.out.lie.below HB.out))
        rw [show sameRB r r = true from (sameRB_iff _ _).2 rfl] at CA
        unfold recV recCells at CA
        have e0 : w33.cell? ⟨w.heap.size, 0, none⟩ = some (.int .i64 r.kind) := cell_blk HX.out 0 rfl
        have e1 : w33.cell? ⟨w.heap.size, 1, none⟩ = some (.int .i64 r.shard) := cell_blk HX.out 1 rfl
        have e2 : w33.cell? ⟨w.heap.size, 2, none⟩ = some (.int .i64 r.epoch) := cell_blk HX.out 2 rfl
        have e3 : w33.cell? ⟨w.heap.size, 3, none⟩ = some (.int .i64 r.peer) := cell_blk HX.out 3 rfl
        have e4 : w33.cell? ⟨w.heap.size, 4, none⟩ = some (.int .i64 r.client) := cell_blk HX.out 4 rfl
        have e5 : w33.cell? ⟨w.heap.size, 5, none⟩ = some (.int .i64 r.seq) := cell_blk HX.out 5 rfl
        have e6 : w33.cell? ⟨w.heap.size, 6, none⟩ = some (.int .i64 r.op.kind) := cell_blk HX.out 6 rfl
        have e7 : w33.cell? ⟨w.heap.size, 7, none⟩ = some (.slice K.1 K.2.1 K.2.2) := cell_blk HX.out 7 rfl
        have e8 : w33.cell? ⟨w.heap.size, 8, none⟩ = some (.slice V.1 V.2.1 V.2.2) := cell_blk HX.out 8 rfl
        have e9 : w33.cell? ⟨w.heap.size, 9, none⟩ = some (.int .i64 r.op.rev) := cell_blk HX.out 9 rfl
        have e10 : w33.cell? ⟨w.heap.size, 10, none⟩ = some (.slice C.1 C.2.1 C.2.2) := cell_blk HX.out 10 rfl
        have d0 : w33.cell? ⟨w31.heap.size, 0, none⟩ = some (.int .i64 r.kind) := cell_blk HC.out 0 rfl
        have d1 : w33.cell? ⟨w31.heap.size, 1, none⟩ = some (.int .i64 r.shard) := cell_blk HC.out 1 rfl
        have d2 : w33.cell? ⟨w31.heap.size, 2, none⟩ = some (.int .i64 r.epoch) := cell_blk HC.out 2 rfl
        have d3 : w33.cell? ⟨w31.heap.size, 3, none⟩ = some (.int .i64 r.peer) := cell_blk HC.out 3 rfl
        have d4 : w33.cell? ⟨w31.heap.size, 4, none⟩ = some (.int .i64 r.client) := cell_blk HC.out 4 rfl
        have d5 : w33.cell? ⟨w31.heap.size, 5, none⟩ = some (.int .i64 r.seq) := cell_blk HC.out 5 rfl
        have d6 : w33.cell? ⟨w31.heap.size, 6, none⟩ = some (.int .i64 r.op.kind) := cell_blk HC.out 6 rfl
        have d7 : w33.cell? ⟨w31.heap.size, 7, none⟩ = some (.slice cK.1 cK.2.1 cK.2.2) := cell_blk HC.out 7 rfl
        have d8 : w33.cell? ⟨w31.heap.size, 8, none⟩ = some (.slice cV.1 cV.2.1 cV.2.2) := cell_blk HC.out 8 rfl
        have d9 : w33.cell? ⟨w31.heap.size, 9, none⟩ = some (.int .i64 r.op.rev) := cell_blk HC.out 9 rfl
        have d10 : w33.cell? ⟨w31.heap.size, 10, none⟩ = some (.slice cC.1 cC.2.1 cC.2.2) := cell_blk HC.out 10 rfl
        go_wp2_with (fail)
        refine CA.out.mono ?_
        rintro e w34 ⟨rfl, hb⟩
        clear CA
        dsimp only
        have Z48 := Lib.hid hb.size
        have HX := Lib.hid (blk_below HX.out hb)
        have NcK := Lib.hid (NcK.out.blw hb)
        have NcV := Lib.hid (NcV.out.blw hb)
        have NcC := Lib.hid (NcC.out.blw hb)
        have HC := Lib.hid (blk_below HC.out hb)
        have HB := Lib.hid (HB.out.trans (hb.mono HB.out.size))
        clear hb
        clear e0 e1 e2 e3 e4 e5 e6 e7 e8 e9 e10
        clear d0 d1 d2 d3 d4 d5 d6 d7 d8 d9 d10
        go_wp2_with (fail)
        go_ret
        exact ⟨rfl, HB.out⟩
  · have h1 : encB r = [] := if_neg hs
    have h2 : encE r = 160 := if_neg hs
    have HE1 := Lib.hid h1
    have HE2 := Lib.hid h2
    have hm : m1 ≤ w4.heap.size ∧ m2 ≤ w4.heap.size ∧ w3.heap.size ≤ w4.heap.size := (by have y2_ := Y2.out; have y3_ := Y3.out; have z4_ := Z7.out; omega)
    have RG := Lib.hid (show RecIn w4 r GK GV GC from ⟨HH.out.wf, HH.out.byt, NK.out.slAt.mono hm.1, NV.out.slAt.mono hm.2.1, NC.out.slAt.mono hm.2.2, HH.out.lk, HH.out.lv, HH.out.lc⟩)
    clear h1 h2 hm
    have d0 : w4.cell? ⟨w3.heap.size, 0, none⟩ = some (.int .i64 r.kind) := cell_blk HG.out 0 rfl
    have d1 : w4.cell? ⟨w3.heap.size, 1, none⟩ = some (.int .i64 r.shard) := cell_blk HG.out 1 rfl
    have d2 : w4.cell? ⟨w3.heap.size, 2, none⟩ = some (.int .i64 r.epoch) := cell_blk HG.out 2 rfl
    have d3 : w4.cell? ⟨w3.heap.size, 3, none⟩ = some (.int .i64 r.peer) := cell_blk HG.out 3 rfl
    have d4 : w4.cell? ⟨w3.heap.size, 4, none⟩ = some (.int .i64 r.client) := cell_blk HG.out 4 rfl
    have d5 : w4.cell? ⟨w3.heap.size, 5, none⟩ = some (.int .i64 r.seq) := cell_blk HG.out 5 rfl
    have d6 : w4.cell? ⟨w3.heap.size, 6, none⟩ = some (.int .i64 r.op.kind) := cell_blk HG.out 6 rfl
    have d7 : w4.cell? ⟨w3.heap.size, 7, none⟩ = some (.slice GK.1 GK.2.1 GK.2.2) := cell_blk HG.out 7 rfl
    have d8 : w4.cell? ⟨w3.heap.size, 8, none⟩ = some (.slice GV.1 GV.2.1 GV.2.2) := cell_blk HG.out 8 rfl
    have d9 : w4.cell? ⟨w3.heap.size, 9, none⟩ = some (.int .i64 r.op.rev) := cell_blk HG.out 9 rfl
    have d10 : w4.cell? ⟨w3.heap.size, 10, none⟩ = some (.slice GC.1 GC.2.1 GC.2.2) := cell_blk HG.out 10 rfl
    have CA := Lib.hid (encode_u RG.out)
    unfold recV recCells at CA
    go_wp2_with (fail)
    refine CA.out.mono ?_
    rintro e w5 ⟨A1, c1, rfl, S1, hb⟩
    clear d0 d1 d2 d3 d4 d5 d6 d7 d8 d9 d10
    rw [HE1.out] at S1
    rw [HE1.out, HE2.out]
    have HQ := Lib.hid (blk_below HQ.out hb)
    have HG := Lib.hid (blk_below HG.out hb)
    have RG := Lib.hid (RG.out.below hb)
    have HB := Lib.hid (HB.out.trans (hb.mono HB.out.size))
    clear hb CA
    have e0 : w5.cell? ⟨w.heap.size + 1, 0, none⟩ = some (.int .i64 q.kind) := cell_blk HQ.out 0 rfl
    have e1 : w5.cell? ⟨w.heap.size + 1, 1, none⟩ = some (.int .i64 q.shard) := cell_blk HQ.out 1 rfl
    have e2 : w5.cell? ⟨w.heap.size + 1, 2, none⟩ = some (.int .i64 q.epoch) := cell_blk HQ.out 2 rfl
    have e3 : w5.cell? ⟨w.heap.size + 1, 3, none⟩ = some (.int .i64 q.peer) := cell_blk HQ.out 3 rfl
    have e4 : w5.cell? ⟨w.heap.size + 1, 4, none⟩ = some (.int .i64 q.client) := cell_blk HQ.out 4 rfl
    have e5 : w5.cell? ⟨w.heap.size + 1, 5, none⟩ = some (.int .i64 q.seq) := cell_blk HQ.out 5 rfl
    have e6 : w5.cell? ⟨w.heap.size + 1, 6, none⟩ = some (.int .i64 q.op.kind) := cell_blk HQ.out 6 rfl
    have e7 : w5.cell? ⟨w.heap.size + 1, 7, none⟩ = some (.slice K'.1 K'.2.1 K'.2.2) := cell_blk HQ.out 7 rfl
    have e8 : w5.cell? ⟨w.heap.size + 1, 8, none⟩ = some (.slice V'.1 V'.2.1 V'.2.2) := cell_blk HQ.out 8 rfl
    have e9 : w5.cell? ⟨w.heap.size + 1, 9, none⟩ = some (.int .i64 q.op.rev) := cell_blk HQ.out 9 rfl
    have e10 : w5.cell? ⟨w.heap.size + 1, 10, none⟩ = some (.slice C'.1 C'.2.1 C'.2.2) := cell_blk HQ.out 10 rfl
    have CA := Lib.hid (encode_u (HH'.out.below HB.out))
    unfold recV recCells at CA
    go_wp2_with (fail)
    refine CA.out.mono ?_
    rintro e w6 ⟨A0, c0, rfl, _, hb⟩
    clear e0 e1 e2 e3 e4 e5 e6 e7 e8 e9 e10
    have HQ := Lib.hid (blk_below HQ.out hb)
    have HG := Lib.hid (blk_below HG.out hb)
    have RG := Lib.hid (RG.out.below hb)
    have HB := Lib.hid (HB.out.trans (hb.mono HB.out.size))
    clear hb CA
    have d0 : w6.cell? ⟨w3.heap.size, 0, none⟩ = some (.int .i64 r.kind) := cell_blk HG.out 0 rfl
    have d1 : w6.cell? ⟨w3.heap.size, 1, none⟩ = some (.int .i64 r.shard) := cell_blk HG.out 1 rfl
    have d2 : w6.cell? ⟨w3.heap.size, 2, none⟩ = some (.int .i64 r.epoch) := cell_blk HG.out 2 rfl
    have d3 : w6.cell? ⟨w3.heap.size, 3, none⟩ = some (.int .i64 r.peer) := cell_blk HG.out 3 rfl
    have d4 : w6.cell? ⟨w3.heap.size, 4, none⟩ = some (.int .i64 r.client) := cell_blk HG.out 4 rfl
    have d5 : w6.cell? ⟨w3.heap.size, 5, none⟩ = some (.int .i64 r.seq) := cell_blk HG.out 5 rfl
    have d6 : w6.cell? ⟨w3.heap.size, 6, none⟩ = some (.int .i64 r.op.kind) := cell_blk HG.out 6 rfl
    have d7 : w6.cell? ⟨w3.heap.size, 7, none⟩ = some (.slice GK.1 GK.2.1 GK.2.2) := cell_blk HG.out 7 rfl
    have d8 : w6.cell? ⟨w3.heap.size, 8, none⟩ = some (.slice GV.1 GV.2.1 GV.2.2) := cell_blk HG.out 8 rfl
    have d9 : w6.cell? ⟨w3.heap.size, 9, none⟩ = some (.int .i64 r.op.rev) := cell_blk HG.out 9 rfl
    have d10 : w6.cell? ⟨w3.heap.size, 10, none⟩ = some (.slice GC.1 GC.2.1 GC.2.2) := cell_blk HG.out 10 rfl
    have CA := Lib.hid (encode_u RG.out)
    unfold recV recCells at CA
    go_wp2_with (fail)
    refine CA.out.mono ?_
    rintro e w7 ⟨A2, c2, rfl, S2, hb⟩
    clear d0 d1 d2 d3 d4 d5 d6 d7 d8 d9 d10
    rw [HE1.out] at S2
    rw [HE1.out, HE2.out]
    have HQ := Lib.hid (blk_below HQ.out hb)
    have HG := Lib.hid (blk_below HG.out hb)
    have RG := Lib.hid (RG.out.below hb)
    have HB := Lib.hid (HB.out.trans (hb.mono HB.out.size))
    clear hb CA
    have CA := Lib.hid (same_any (w := w7) (A := A1) (B := A2) (a := []) (b := []) (c := c1) (c' := c2) (fun h => absurd rfl h) (fun h => absurd rfl h) (by simp) (by simp))
    rw [decide_eq_true rfl] at CA
    simp only [List.length_nil] at CA ⊢
    go_wp2_with (fail)
    refine CA.out.mono ?_
    rintro e w8 ⟨rfl, hb⟩
    have HQ := Lib.hid (blk_below HQ.out hb)
    have HG := Lib.hid (blk_below HG.out hb)
    have RG := Lib.hid (RG.out.below hb)
    have HB := Lib.hid (HB.out.trans (hb.mono HB.out.size))
    clear hb CA
    go_wp2_with (fail)
    go_ret
    exact ⟨rfl, HB.out⟩
theorem RecordOwn_walk (w : World) (cs : Array Value) (x : _) (hx : RdRec.rd w x cs.toList) (cs' : Array Value) (x' : _) (hx' : RdRec.rd w x' cs'.toList) :
    Calls Try.prog 10 #[.agg cs, .agg cs'] w fun e w' => e = .returned (.bool true) ∧ Below w.heap.size w w' := by
  obtain ⟨r, K, V, C, hv, h⟩ := rec_of hx
  obtain ⟨q, K', V', C', hv', h'⟩ := rec_of hx'
  rw [hv, hv']
  exact own_1 h h'
namespace recordOwn
open Go.ChangeShapes Go.WideShapes Go.ChangeAt Go.RowKit
open Go.ChangeMaps (open_string shut_string)
theorem own : ownKnob Try.prog.godebug = none := by kernel_rfl
theorem laidOut : laidOutB Try.prog = true := by kernel_rfl
set_option maxRecDepth 100000 in
theorem lifted (os : Os) (started : os.Started) (H : Type) (enc : TypeId × Value → H) :
    ReturnsInHanded {} Try.checked os 10 .any (Rows.recordOwnSpec.pre6 enc Try.prog Try.f10 Rows.recordOwnRow.domain false) (Rows.recordOwnSpec.post enc Try.prog Try.f10 false true false false) := by
  refine returnsInHanded_of_change_sized (C := Try.checked) own started (by kernel_rfl) Try.func10
    (ChangeSpec.witness6 (enc := enc) (C := Try.checked) false ⟨#[], #[.agg #[.int .i64 0, .int .i64 0, .int .i64 0, .int .i64 0, .int .i64 0, .int .i64 0, .int .i64 0, .slice none 0 0, .slice none 0 0, .int .i64 0, .slice none 0 0], .agg #[.int .i64 0, .int .i64 0, .int .i64 0, .int .i64 0, .int .i64 0, .int .i64 0, .int .i64 0, .slice none 0 0, .slice none 0 0, .int .i64 0, .slice none 0 0]], []⟩ 8 (by kernel_rfl) (by kernel_rfl) (by kernel_rfl) (by kernel_rfl)) ?_
  intro W base args ds gs before hval0 hW hcnd hsz0 _
  have hsz : (DataW.weightsEach Try.prog (Try.f10.params.toList ++ Rows.recordOwnSpec.plain.varTypes Try.prog) (ds ++ gs)).all (· ≤ reachBytes) = true := hsz0
  have hval : ∀ (j : Nat) t v, Try.f10.params[j]? = some t → args[j]? = some v → Value.okWide Try.prog W .any base t v := hval0
  have hW' := hW
  obtain ⟨p, q, hA0, hV, rfl, hfz, hnd⟩ := hW
  have hA : DataW.TrodAll enc Try.prog W 0 (fun _ => true) true Try.f10.params.toList args.toList ds p := hA0
  rw [Try.params10] at hA hval hsz
  obtain ⟨v0, vs0, d0, ds0, p0, q0, hargs, rfl, rfl, h0, r0⟩ := trodAll_cons hA
  obtain ⟨v1, vs1, d1, ds1, p1, q1, rfl, rfl, rfl, h1, r1⟩ := trodAll_cons r0
  obtain ⟨rfl, rfl, rfl⟩ := trodAll_nil r1
  obtain rfl : args = #[v0, v1] := by cases args; simp_all
  obtain ⟨rfl, rfl⟩ := trodVars_none hV
  obtain ⟨a0, rfl, z0⟩ := okWide_struct Try.underlying26 (hval 0 26 v0 rfl rfl)
  have k0 := h0
  have lt0 : ∀ x ∈ p0, x.block < W.heap.size := by obtain ⟨m, hm⟩ := k0; exact DataW.trod_lt m _ _ _ hm
  obtain ⟨xs0, hx0⟩ := opened_struct (opens_rec W) h0 (weights_at hsz (j := 0) (t := 26) rfl rfl)
  obtain ⟨a1, rfl, z1⟩ := okWide_struct Try.underlying26 (hval 1 26 v1 rfl rfl)
  have k1 := h1
  have lt1 : ∀ x ∈ p1, x.block < W.heap.size := by obtain ⟨m, hm⟩ := k1; exact DataW.trod_lt m _ _ _ hm
  obtain ⟨xs1, hx1⟩ := opened_struct (opens_rec W) h1 (weights_at hsz (j := 1) (t := 26) rfl rfl)
  clear hA0 hval0 hsz0 hsz
  refine (RecordOwn_walk W a0 xs0 hx0 a1 xs1 hx1).mono fun e W' ⟨he, bel⟩ => ?_
  subst he
  exact ⟨_, rfl, _, _, _, [], _, [], hW', trodAll_mk1 (shut_bool Try.underlying4 _), (trodAll_cons_mk (Below.trod laidOut (by kernel_rfl) (of_decide_eq_true (by kernel_rfl)) k0 bel lt0) (trodAll_cons_mk (Below.trod laidOut (by kernel_rfl) (of_decide_eq_true (by kernel_rfl)) k1 bel lt1) trodAll_mk0)), rfl, bel.frame _, fun h => by cases h⟩
theorem over : Rows.recordOwnRow.holds Try.pinned (OpenSpec.ofChange Rows.recordOwnSpec) :=
  OpenClaim.holds_of_wide 10 Try.f10 rfl rfl rfl rfl rfl rfl rfl ⟨rfl, rfl, rfl, rfl, rfl⟩ rfl rfl rfl rfl rfl (by kernel_rfl) Try.func10 (by kernel_rfl)
    (of_decide_eq_true (by kernel_rfl)) (by unfold Func.isWrapper; first | (rw [if_pos (by decide +kernel)]; kernel_rfl) | (rw [if_neg (by decide +kernel)]; exact ⟨rfl, rfl⟩))
    (fun os started H enc _ => lifted os started H enc)
theorem proved : Rows.RecordOwnSaid := over
end recordOwn
theorem recordOwn_holds : Rows.RecordOwnSaid := recordOwn.proved
#print axioms recordOwn_holds
end Go.Proofs.Ytjmmdpnphafdfaa
