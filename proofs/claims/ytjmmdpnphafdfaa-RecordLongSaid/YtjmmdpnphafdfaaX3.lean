/- RecordLong: how long forms are. -/
import Derived.Test.YtjmmdpnphafdfaaX2
namespace Go.Proofs.Ytjmmdpnphafdfaa
set_option linter.unusedVariables false
set_option linter.unusedSimpArgs false
open Go.ChangeShapes Go.WideShapes Go.ChangeAt Go.RowKit Go.Deep Go.Proofs.YtjmmdpnphafdfaaW.PrintLast

theorem formN_b (n k : Nat) (h : n < 128 ^ (k + 1)) : 1 ≤ (formN n).length ∧ (formN n).length ≤ k + 1 := ⟨formN_pos n, formN_len k n h⟩
theorem long_install {r : RZ} (h : SoundR r) (k4 : r.kind = 4) : (formR r).length ≤ r.copy.length + 11 ∧ r.copy.length + 5 ≤ (formR r).length := by
  have ln := h.lens
  obtain ⟨⟨s0, s1⟩, h⟩ := h
  have k1 : ¬ r.kind = 1 := by omega
  have k2 : ¬ r.kind = 2 := by omega
  rcases h with h | h | ⟨_, ⟨e0, e1⟩, ⟨p0, p1⟩, _⟩ | h
  · exact absurd h.1 k1
  · exact absurd h.1 k2
  · have a1 := formN_b r.shard.toNat 0 (by omega)
    have a2 := formN_b r.epoch.toNat 4 (by omega)
    have a3 := formN_b r.peer.toNat 0 (by omega)
    have a4 := formN_b r.copy.length 2 (by omega)
    unfold formR textN
    simp only [if_neg k1, if_neg k2, if_pos k4, List.length_cons, List.length_append]
    omega
  · exact absurd h.1 (by omega)
theorem long_write {r : RZ} (h : SoundR r) (k1 : r.kind = 1) : (formR r).length ≤ 338 ∧ r.op.key.length + r.op.val.length + 6 ≤ (formR r).length := by
  obtain ⟨⟨s0, s1⟩, h⟩ := h
  rcases h with ⟨_, ⟨c0, c1⟩, ⟨q0, q1⟩, ho, ⟨o1, o2⟩, _⟩ | h | h | h
  · have a1 := formN_b r.shard.toNat 0 (by omega)
    have a2 := formN_b r.client.toNat 0 (by omega)
    have a3 := formN_b r.seq.toNat 4 (by omega)
    have hk : r.op.key.length ≤ 64 := by unfold RightO at ho; omega
    have a4 := formN_b r.op.key.length 0 (by omega)
    have a5 := formN_b r.op.val.length 1 (by have := ho.val; omega)
    have a6 := formN_b r.op.rev.toNat 5 (by have := ho.rev; omega)
    have hv : r.op.kind = 3 → r.op.val.length = 0 := by unfold RightO at ho; omega
    have hv2 := ho.val
    unfold formR
    simp only [if_pos k1, List.length_cons, List.length_append]
    rw [formO_split]
    unfold textN
    simp only [List.length_append]
    split
    · rename_i k3
      have := hv k3
      rw [if_neg (by omega)]
      omega
    · split <;> omega
  · exact absurd h.1 (by omega)
  · exact absurd h.1 (by omega)
  · exact absurd h.1 (by omega)
theorem long_else {r : RZ} (h : SoundR r) (k1 : ¬ r.kind = 1) (k4 : ¬ r.kind = 4) : 2 ≤ (formR r).length ∧ (formR r).length ≤ 3 := by
  obtain ⟨⟨s0, s1⟩, h⟩ := h
  have a1 := formN_b r.shard.toNat 0 (by omega)
  unfold formR
  rcases h with h | ⟨k2, ⟨p0, p1⟩, _⟩ | h | h
  · exact absurd h.1 k1
  · have a2 := formN_b r.peer.toNat 0 (by omega)
    simp only [if_neg k1, if_pos k2, List.length_cons, List.length_append]
    omega
  · exact absurd h.1 k4
  · have k2 : ¬ r.kind = 2 := by omega
    simp only [if_neg k1, if_neg k2, if_neg k4, List.length_cons, List.length_append, List.length_nil]
    omega
set_option maxRecDepth 100000 in
set_option maxHeartbeats 8000000 in
theorem long_1 {w : World} {r : RZ} {K V C : SlB} (h : RecIn w r K V C) :
    Calls Try.prog 9 #[recV r K V C] w fun e w' => e = .returned (.bool true) ∧ Below w.heap.size w w' := by
  have nR := blk_new w (.cells (recCells r K V C) TRec (0, 0))
  have bR : Below w.heap.size w (w.alloc (.cells (recCells r K V C) TRec (0, 0))) := (Below.refl _ _).alloc (Nat.le_refl _) _
  unfold recV
  generalize hw1 : w.alloc (.cells (recCells r K V C) TRec (0, 0)) = w1 at *
  have RI := Lib.hid (h.below bR)
  have HB1 := Lib.hid bR
  have HN := Lib.hid nR
  have AW := Lib.hid (awake_any w1)
  have hk := h.key.1
  have hv := h.val.1
  have hc := h.copy.1
  have q2 := Lib.hid hk
  have q3 := Lib.hid hv
  have q4 := Lib.hid hc
  clear hk hv hc
  have LK := h.wf.key
  have LV := h.wf.val
  have LC := h.wf.copy
  clear h nR bR
  unfold recCells at hw1 ⊢
  have HW1 := Lib.hid hw1
  clear hw1
  go_enter Try.func9, Try.ntmps9
  go_upto_region 1 with (fail)
  rw [HW1.out]
  go_wp2_with (fail)
  refine AW.out.mono ?_
  rintro e w2 ⟨rfl, hb2⟩
  have HB2 := Lib.hid (HB1.out.trans (hb2.mono HB1.out.size))
  have HN2 := Lib.hid (blk_below HN.out hb2)
  have RI2 := RI.out.below hb2
  have SZ := Lib.hid (rsize_any RI2.wf RI2.byt RI2.key RI2.val q4.out)
  unfold recV recCells at SZ
  have e0 : w2.cell? ⟨w.heap.size, 0, none⟩ = some (.int .i64 r.kind) := cell_blk HN2.out 0 rfl
  have e1 : w2.cell? ⟨w.heap.size, 1, none⟩ = some (.int .i64 r.shard) := cell_blk HN2.out 1 rfl
  have e2 : w2.cell? ⟨w.heap.size, 2, none⟩ = some (.int .i64 r.epoch) := cell_blk HN2.out 2 rfl
  have e3 : w2.cell? ⟨w.heap.size, 3, none⟩ = some (.int .i64 r.peer) := cell_blk HN2.out 3 rfl
  have e4 : w2.cell? ⟨w.heap.size, 4, none⟩ = some (.int .i64 r.client) := cell_blk HN2.out 4 rfl
  have e5 : w2.cell? ⟨w.heap.size, 5, none⟩ = some (.int .i64 r.seq) := cell_blk HN2.out 5 rfl
  have e6 : w2.cell? ⟨w.heap.size, 6, none⟩ = some (.int .i64 r.op.kind) := cell_blk HN2.out 6 rfl
  have e7 : w2.cell? ⟨w.heap.size, 7, none⟩ = some (.slice K.1 K.2.1 K.2.2) := cell_blk HN2.out 7 rfl
  have e8 : w2.cell? ⟨w.heap.size, 8, none⟩ = some (.slice V.1 V.2.1 V.2.2) := cell_blk HN2.out 8 rfl
  have e9 : w2.cell? ⟨w.heap.size, 9, none⟩ = some (.int .i64 r.op.rev) := cell_blk HN2.out 9 rfl
  have e10 : w2.cell? ⟨w.heap.size, 10, none⟩ = some (.slice C.1 C.2.1 C.2.2) := cell_blk HN2.out 10 rfl
  clear hb2 RI2
  go_wp2_with (fail)
  refine SZ.out.mono ?_
  rintro e w3 ⟨hb3, rfl⟩
  have HB3 := Lib.hid (HB2.out.trans (hb3.mono HB2.out.size))
  have HN3 := Lib.hid (blk_below HN2.out hb3)
  clear hb3
  have e0 : w3.cell? ⟨w.heap.size, 0, none⟩ = some (.int .i64 r.kind) := cell_blk HN3.out 0 rfl
  have e1 : w3.cell? ⟨w.heap.size, 1, none⟩ = some (.int .i64 r.shard) := cell_blk HN3.out 1 rfl
  have e2 : w3.cell? ⟨w.heap.size, 2, none⟩ = some (.int .i64 r.epoch) := cell_blk HN3.out 2 rfl
  have e3 : w3.cell? ⟨w.heap.size, 3, none⟩ = some (.int .i64 r.peer) := cell_blk HN3.out 3 rfl
  have e4 : w3.cell? ⟨w.heap.size, 4, none⟩ = some (.int .i64 r.client) := cell_blk HN3.out 4 rfl
  have e5 : w3.cell? ⟨w.heap.size, 5, none⟩ = some (.int .i64 r.seq) := cell_blk HN3.out 5 rfl
  have e6 : w3.cell? ⟨w.heap.size, 6, none⟩ = some (.int .i64 r.op.kind) := cell_blk HN3.out 6 rfl
  have e7 : w3.cell? ⟨w.heap.size, 7, none⟩ = some (.slice K.1 K.2.1 K.2.2) := cell_blk HN3.out 7 rfl
  have e8 : w3.cell? ⟨w.heap.size, 8, none⟩ = some (.slice V.1 V.2.1 V.2.2) := cell_blk HN3.out 8 rfl
  have e9 : w3.cell? ⟨w.heap.size, 9, none⟩ = some (.int .i64 r.op.rev) := cell_blk HN3.out 9 rfl
  have e10 : w3.cell? ⟨w.heap.size, 10, none⟩ = some (.slice C.1 C.2.1 C.2.2) := cell_blk HN3.out 10 rfl
  rw [q2.out] at e7
  rw [q3.out] at e8
  rw [q4.out] at e10
  by_cases hs : SoundR r
  · have HS := Lib.hid hs
    rw [show sizeR r = (((formR r).length : Int), 0) from if_pos hs]
    have L4 := Lib.hid (long_install hs)
    have L1 := Lib.hid (long_write hs)
    have LE := Lib.hid (long_else hs)
    generalize (formR r).length = n at *
    simp only
    generalize r.op.key.length = lk at *
    generalize r.op.val.length = lv at *
    generalize r.copy.length = lc at *
    generalize r.kind = kd at *
    clear hs
    by_cases k4 : kd = 4
    · subst k4
      have B := L4.out rfl
      have B1 := B.1
      have B2 := B.2
      clear B
      go_wp2_with (fail)
      all_goals
        go_ret
        refine ⟨ret_b ?_, HB3.out⟩
        simp
        omega
    · by_cases k1 : kd = 1
      · subst k1
        have B := L1.out rfl
        have B1 := B.1
        have B2 := B.2
        clear B
        go_wp2_with (fail)
        all_goals
          go_ret
          refine ⟨ret_b ?_, HB3.out⟩
          simp
          omega
      · have B := LE.out k1 k4
        have B1 := B.1
        have B2 := B.2
        clear B
        go_wp2_with (fail)
        all_goals
          go_ret
          refine ⟨ret_b ?_, HB3.out⟩
          simp
          omega
  · rw [show sizeR r = (0, 160) from if_neg hs]
    go_wp2_with (fail)
    go_ret
    exact ⟨rfl, HB3.out⟩
theorem RecordLong_walk (w : World) (cs : Array Value) (x : _) (hx : RdRec.rd w x cs.toList) :
    Calls Try.prog 9 #[.agg cs] w fun e w' => e = .returned (.bool true) ∧ Below w.heap.size w w' := by
  obtain ⟨r, K, V, C, hv, h⟩ := rec_of hx
  rw [hv]
  exact long_1 h
namespace recordLong
open Go.ChangeShapes Go.WideShapes Go.ChangeAt Go.RowKit
open Go.ChangeMaps (open_string shut_string)
theorem own : ownKnob Try.prog.godebug = none := by kernel_rfl
theorem laidOut : laidOutB Try.prog = true := by kernel_rfl
set_option maxRecDepth 100000 in
theorem lifted (os : Os) (started : os.Started) (H : Type) (enc : TypeId × Value → H) :
    ReturnsInHanded {} Try.checked os 9 .any (Rows.recordLongSpec.pre6 enc Try.prog Try.f9 Rows.recordLongRow.domain false) (Rows.recordLongSpec.post enc Try.prog Try.f9 false true false false) := by
  refine returnsInHanded_of_change_sized (C := Try.checked) own started (by kernel_rfl) Try.func9
    (ChangeSpec.witness6 (enc := enc) (C := Try.checked) false ⟨#[], #[.agg #[.int .i64 0, .int .i64 0, .int .i64 0, .int .i64 0, .int .i64 0, .int .i64 0, .int .i64 0, .slice none 0 0, .slice none 0 0, .int .i64 0, .slice none 0 0]], []⟩ 8 (by kernel_rfl) (by kernel_rfl) (by kernel_rfl) (by kernel_rfl)) ?_
  intro W base args ds gs before hval0 hW hcnd hsz0 _
  have hsz : (DataW.weightsEach Try.prog (Try.f9.params.toList ++ Rows.recordLongSpec.plain.varTypes Try.prog) (ds ++ gs)).all (· ≤ reachBytes) = true := hsz0
  have hval : ∀ (j : Nat) t v, Try.f9.params[j]? = some t → args[j]? = some v → Value.okWide Try.prog W .any base t v := hval0
  have hW' := hW
  obtain ⟨p, q, hA0, hV, rfl, hfz, hnd⟩ := hW
  have hA : DataW.TrodAll enc Try.prog W 0 (fun _ => true) true Try.f9.params.toList args.toList ds p := hA0
  rw [Try.params9] at hA hval hsz
  obtain ⟨v0, vs0, d0, ds0, p0, q0, hargs, rfl, rfl, h0, r0⟩ := trodAll_cons hA
  obtain ⟨rfl, rfl, rfl⟩ := trodAll_nil r0
  obtain rfl : args = #[v0] := by cases args; simp_all
  obtain ⟨rfl, rfl⟩ := trodVars_none hV
  obtain ⟨a0, rfl, z0⟩ := okWide_struct Try.underlying26 (hval 0 26 v0 rfl rfl)
  have k0 := h0
  have lt0 : ∀ x ∈ p0, x.block < W.heap.size := by obtain ⟨m, hm⟩ := k0; exact DataW.trod_lt m _ _ _ hm
  obtain ⟨xs0, hx0⟩ := opened_struct (opens_rec W) h0 (weights_at hsz (j := 0) (t := 26) rfl rfl)
  clear hA0 hval0 hsz0 hsz
  refine (RecordLong_walk W a0 xs0 hx0).mono fun e W' ⟨he, bel⟩ => ?_
  subst he
  exact ⟨_, rfl, _, _, _, [], _, [], hW', trodAll_mk1 (shut_bool Try.underlying4 _), (trodAll_cons_mk (Below.trod laidOut (by kernel_rfl) (of_decide_eq_true (by kernel_rfl)) k0 bel lt0) trodAll_mk0), rfl, bel.frame _, fun h => by cases h⟩
theorem over : Rows.recordLongRow.holds Try.pinned (OpenSpec.ofChange Rows.recordLongSpec) :=
  OpenClaim.holds_of_wide 9 Try.f9 rfl rfl rfl rfl rfl rfl rfl ⟨rfl, rfl, rfl, rfl, rfl⟩ rfl rfl rfl rfl rfl (by kernel_rfl) Try.func9 (by kernel_rfl)
    (of_decide_eq_true (by kernel_rfl)) (by unfold Func.isWrapper; first | (rw [if_pos (by decide +kernel)]; kernel_rfl) | (rw [if_neg (by decide +kernel)]; exact ⟨rfl, rfl⟩))
    (fun os started H enc _ => lifted os started H enc)
theorem proved : Rows.RecordLongSaid := over
end recordLong
theorem recordLong_holds : Rows.RecordLongSaid := recordLong.proved
#print axioms recordLong_holds
end Go.Proofs.Ytjmmdpnphafdfaa
