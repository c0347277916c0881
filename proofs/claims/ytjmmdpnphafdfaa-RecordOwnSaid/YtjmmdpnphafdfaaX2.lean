/- RecordForm: any bytes that are decoded are the one form of what they are decoded to. -/
import Derived.Test.YtjmmdpnphafdfaaX1
namespace Go.Proofs.Ytjmmdpnphafdfaa
set_option linter.unusedVariables false
set_option linter.unusedSimpArgs false
open Go.ChangeShapes Go.WideShapes Go.ChangeAt Go.RowKit Go.Deep Go.Proofs.YtjmmdpnphafdfaaW.PrintLast

theorem decR_ok {p : List Int} (hb : Byt p) (hl : p.length ≤ 140737488355328) : RdOk p.length (decR p) := by
  have b1 := RS.byte_byt (s := ⟨p, [], 0⟩) hb
  have l1 := RS.byte_llen ⟨p, [], 0⟩
  have b2 := RS.num_byt b1.1
  have l2 := RS.num_llen (RS.byte ⟨p, [], 0⟩).2
  have z : In64 0 := ⟨by omega, by omega⟩
  have base : RdOk p.length ((⟨(RS.byte ⟨p, [], 0⟩).1, i64N (RS.byte ⟨p, [], 0⟩).2.num.1, 0, 0, 0, 0, OpZ.none, []⟩ : RZ), (RS.byte ⟨p, [], 0⟩).2.num.2) :=
    ⟨⟨z, z, z, z, z, z, by simp [OpZ.none], by simp [OpZ.none], by simp⟩, b2, Nat.le_trans l2 l1⟩
  have fold : ∀ (ps : List PK) (q : RZ × RS), RdOk p.length q → RdOk p.length (ps.foldl (fun q p => readP p q.1 q.2) q) := by
    intro ps
    induction ps with
    | nil => intro q h; exact h
    | cons a t ih => intro q h; exact ih _ (h.read hl a)
  have := fold (psOf (RS.byte ⟨p, [], 0⟩).1) _ base
  rw [decP_fold] at this
  exact this
theorem decode_wf {p : List Int} (hb : Byt p) (hl : p.length ≤ 140737488355328) : (decodeR p).1.Wf := by
  unfold decodeR
  split
  · exact (decR_ok hb hl).wf
  · have z : In64 0 := ⟨by omega, by omega⟩
    exact ⟨z, z, z, z, z, z, by simp [RZ.none, OpZ.none], by simp [RZ.none, OpZ.none], by simp [RZ.none]⟩
/-- What a decoded record is. -/
theorem Chain.recIn {w : World} {lo : Nat} {r : RZ} {K V C : SlB} (h : Chain w lo r K V C) (hw : r.Wf) (hb : r.Byt) (hs : SoundR r) : RecIn w r K V C := by
  obtain ⟨m, n, h1, h2, h3, h4, h5, h6⟩ := h
  have ln := hs.lens
  have hr : reach = 140737488351232 := rfl
  exact ⟨hw, hb, SlAt.mono h4.slAt (by omega), SlAt.mono h5.slAt (by omega), h6.slAt, by omega, by omega, by omega⟩
theorem none_lie (w : World) {lo : Nat} {K V C : SlB} (h : Chain w lo RZ.none K V C) : RecLie w RZ.none K V C := h.lie (by decide)
theorem zero_lie (w : World) : RecLie w RZ.none zSl zSl zSl := ⟨⟨rfl, fun h => absurd rfl h⟩, ⟨rfl, fun h => absurd rfl h⟩, ⟨rfl, fun h => absurd rfl h⟩, by decide, by decide, by decide⟩
set_option maxRecDepth 100000 in
set_option maxHeartbeats 8000000 in
theorem form_1 (w : World) (A : Option Addr) (cap : Nat) (p : List Int) (hl : p.length ≤ 140737488351232) (hp : BSrc w A p) (hb : Byt p) :
    Calls Try.prog 5 #[.slice A p.length cap] w fun e w' => e = .returned (.bool true) ∧ Below w.heap.size w w' := by
  have AW := Lib.hid (awake_any w)
  have DC := Lib.hid (fun (w1 : World) (h1 : Below w.heap.size w w1) => decode_any (w := w1) hb (by omega) (c0 := cap) (hp.below h1))
  have HP := Lib.hid hp
  have HB := Lib.hid hb
  have hl2 : p.length ≤ 140737488355328 := by omega
  have HWF := Lib.hid (decode_wf hb hl2)
  have HBY := Lib.hid (decode_byt hb)
  clear hp hb
  go_enter Try.func5, Try.ntmps5
  go_wp2_with (fail)
  refine AW.out.mono ?_
  rintro e w1 ⟨rfl, hb1⟩
  have HB1 := Lib.hid hb1
  clear hb1
  go_wp2_with (fail)
  refine (DC.out w1 HB1.out).mono ?_
  rintro e w2 ⟨hb2, K, V, C, rfl, CH⟩
  have HB2 := Lib.hid (HB1.out.trans (hb2.mono HB1.out.size))
  by_cases he : (decodeR p).2 = 0
  · obtain ⟨hs, hf⟩ := decode_ok HB.out he
    have RI := Lib.hid (CH.recIn HWF.out HBY.out hs)
    have HSD := Lib.hid hs
    have HFM := Lib.hid hf
    rw [he]
    generalize hr : (decodeR p).1 = r at *
    clear hb2 CH he hs hf hr
    unfold recV recCells
    have nR := blk_new w2 (.cells (recCells r K V C) TRec (0, 0))
    have bR : Below w2.heap.size w2 (w2.alloc (.cells (recCells r K V C) TRec (0, 0))) := (Below.refl _ _).alloc (Nat.le_refl _) _
    generalize hw3 : w2.alloc (.cells (recCells r K V C) TRec (0, 0)) = w3 at *
    have RI3 := RI.out.below bR
    have EN := Lib.hid (encode_any RI3.wf RI3.byt RI3.key RI3.val RI3.copy)
    have HRI := Lib.hid RI3
    have HB3 := Lib.hid (HB2.out.trans (bR.mono HB2.out.size))
    have HNR := Lib.hid nR
    unfold recCells at hw3
    unfold recV recCells at EN
    have HW3 := Lib.hid hw3
    clear nR bR hw3 RI3
    go_upto_region 4 with (fail)
    rw [HW3.out]
    have e0 : w3.cell? ⟨w2.heap.size, 0, none⟩ = some (.int .i64 r.kind) := cell_blk HNR.out 0 rfl
    have e1 : w3.cell? ⟨w2.heap.size, 1, none⟩ = some (.int .i64 r.shard) := cell_blk HNR.out 1 rfl
    have e2 : w3.cell? ⟨w2.heap.size, 2, none⟩ = some (.int .i64 r.epoch) := cell_blk HNR.out 2 rfl
    have e3 : w3.cell? ⟨w2.heap.size, 3, none⟩ = some (.int .i64 r.peer) := cell_blk HNR.out 3 rfl
    have e4 : w3.cell? ⟨w2.heap.size, 4, none⟩ = some (.int .i64 r.client) := cell_blk HNR.out 4 rfl
    have e5 : w3.cell? ⟨w2.heap.size, 5, none⟩ = some (.int .i64 r.seq) := cell_blk HNR.out 5 rfl
    have e6 : w3.cell? ⟨w2.heap.size, 6, none⟩ = some (.int .i64 r.op.kind) := cell_blk HNR.out 6 rfl
    have e7 : w3.cell? ⟨w2.heap.size, 7, none⟩ = some (.slice K.1 K.2.1 K.2.2) := cell_blk HNR.out 7 rfl
    have e8 : w3.cell? ⟨w2.heap.size, 8, none⟩ = some (.slice V.1 V.2.1 V.2.2) := cell_blk HNR.out 8 rfl
    have e9 : w3.cell? ⟨w2.heap.size, 9, none⟩ = some (.int .i64 r.op.rev) := cell_blk HNR.out 9 rfl
    have e10 : w3.cell? ⟨w2.heap.size, 10, none⟩ = some (.slice C.1 C.2.1 C.2.2) := cell_blk HNR.out 10 rfl
    go_wp2_with (fail)
    refine EN.out.mono ?_
    rintro e w4 ⟨hb4, ⟨_, g, rfl, hg, O⟩ | ⟨NS, _⟩⟩
    · have HFF := Lib.hid (show formR r = p from HFM.out)
      have HB4 := Lib.hid (HB3.out.trans (hb4.mono HB3.out.size))
      have HN4 := Lib.hid (blk_below HNR.out hb4)
      have HRI4 := Lib.hid (HRI.out.below hb4)
      rw [HFF.out] at O ⊢
      have SM := Lib.hid (same_any (c := cap) (c' := p.length) (HP.out.below HB4.out) (BSrc.ofOwn O) hl2 hl2)
      rw [decide_eq_true rfl] at SM
      clear hb4 O
      go_wp2_with (fail)
      refine SM.out.mono ?_
      rintro e w5 ⟨rfl, hb5⟩
      have HB5 := Lib.hid (HB4.out.trans (hb5.mono HB4.out.size))
      have HN5 := Lib.hid (blk_below HN4.out hb5)
      have SD := Lib.hid (sound_any HRI.out.wf K V C HRI.out.key.1 HRI.out.val.1 HRI.out.copy.1 w5)
      rw [soundB_eq, decide_eq_true HSD.out] at SD
      unfold recV recCells at SD
      clear hb5
      have e0 : w5.cell? ⟨w2.heap.size, 0, none⟩ = some (.int .i64 r.kind) := cell_blk HN5.out 0 rfl
      have e1 : w5.cell? ⟨w2.heap.size, 1, none⟩ = some (.int .i64 r.shard) := cell_blk HN5.out 1 rfl
      have e2 : w5.cell? ⟨w2.heap.size, 2, none⟩ = some (.int .i64 r.epoch) := cell_blk HN5.out 2 rfl
      have e3 : w5.cell? ⟨w2.heap.size, 3, none⟩ = some (.int .i64 r.peer) := cell_blk HN5.out 3 rfl
      have e4 : w5.cell? ⟨w2.heap.size, 4, none⟩ = some (.int .i64 r.client) := cell_blk HN5.out 4 rfl
      have e5 : w5.cell? ⟨w2.heap.size, 5, none⟩ = some (.int .i64 r.seq) := cell_blk HN5.out 5 rfl
      have e6 : w5.cell? ⟨w2.heap.size, 6, none⟩ = some (.int .i64 r.op.kind) := cell_blk HN5.out 6 rfl
      have e7 : w5.cell? ⟨w2.heap.size, 7, none⟩ = some (.slice K.1 K.2.1 K.2.2) := cell_blk HN5.out 7 rfl
      have e8 : w5.cell? ⟨w2.heap.size, 8, none⟩ = some (.slice V.1 V.2.1 V.2.2) := cell_blk HN5.out 8 rfl
      have e9 : w5.cell? ⟨w2.heap.size, 9, none⟩ = some (.int .i64 r.op.rev) := cell_blk HN5.out 9 rfl
      have e10 : w5.cell? ⟨w2.heap.size, 10, none⟩ = some (.slice C.1 C.2.1 C.2.2) := cell_blk HN5.out 10 rfl
      go_wp2_with (fail)
      refine SD.out.mono ?_
      rintro e w6 ⟨rfl, hb6⟩
      go_wp2_with (fail)
      go_ret
      exact ⟨rfl, HB5.out.trans (hb6.mono HB5.out.size)⟩
    · exact absurd HSD.out NS
  · have hbad := decode_bad he
    rw [hbad] at CH ⊢
    have LI := Lib.hid (none_lie w2 CH)
    clear CH he hbad
    unfold recV recCells
    have nR := blk_new w2 (.cells (recCells RZ.none K V C) TRec (0, 0))
    have bR : Below w2.heap.size w2 (w2.alloc (.cells (recCells RZ.none K V C) TRec (0, 0))) := (Below.refl _ _).alloc (Nat.le_refl _) _
    generalize hw3 : w2.alloc (.cells (recCells RZ.none K V C) TRec (0, 0)) = w3 at *
    have SR := Lib.hid (sameRec_any (LI.out.below bR) (zero_lie w3))
    have hrr : sameRB RZ.none RZ.none = true := (sameRB_iff _ _).2 rfl
    rw [hrr] at SR
    unfold recV recCells at SR
    have HB3 := Lib.hid (HB2.out.trans (bR.mono HB2.out.size))
    have HNR := Lib.hid nR
    unfold recCells at hw3
    have HW3 := Lib.hid hw3
    clear nR bR hw3 hrr hb2
    go_upto_region 4 with (fail)
    rw [HW3.out]
    have e0 : w3.cell? ⟨w2.heap.size, 0, none⟩ = some (.int .i64 RZ.none.kind) := cell_blk HNR.out 0 rfl
    have e1 : w3.cell? ⟨w2.heap.size, 1, none⟩ = some (.int .i64 RZ.none.shard) := cell_blk HNR.out 1 rfl
    have e2 : w3.cell? ⟨w2.heap.size, 2, none⟩ = some (.int .i64 RZ.none.epoch) := cell_blk HNR.out 2 rfl
    have e3 : w3.cell? ⟨w2.heap.size, 3, none⟩ = some (.int .i64 RZ.none.peer) := cell_blk HNR.out 3 rfl
    have e4 : w3.cell? ⟨w2.heap.size, 4, none⟩ = some (.int .i64 RZ.none.client) := cell_blk HNR.out 4 rfl
    have e5 : w3.cell? ⟨w2.heap.size, 5, none⟩ = some (.int .i64 RZ.none.seq) := cell_blk HNR.out 5 rfl
    have e6 : w3.cell? ⟨w2.heap.size, 6, none⟩ = some (.int .i64 RZ.none.op.kind) := cell_blk HNR.out 6 rfl
    have e7 : w3.cell? ⟨w2.heap.size, 7, none⟩ = some (.slice K.1 K.2.1 K.2.2) := cell_blk HNR.out 7 rfl
    have e8 : w3.cell? ⟨w2.heap.size, 8, none⟩ = some (.slice V.1 V.2.1 V.2.2) := cell_blk HNR.out 8 rfl
    have e9 : w3.cell? ⟨w2.heap.size, 9, none⟩ = some (.int .i64 RZ.none.op.rev) := cell_blk HNR.out 9 rfl
    have e10 : w3.cell? ⟨w2.heap.size, 10, none⟩ = some (.slice C.1 C.2.1 C.2.2) := cell_blk HNR.out 10 rfl
    go_wp2_with (fail)
    refine SR.out.mono ?_
    rintro e w4 ⟨rfl, hb4⟩
    go_wp2_with (fail)
    go_ret
    exact ⟨rfl, HB3.out.trans (hb4.mono HB3.out.size)⟩
theorem RecordForm_walk (w : World) (A : Option Addr) (cap : Nat) (p : List Int) (hc : p.length ≤ cap) (hm : cap ≤ maxLen) (hb : p.length * 1 ≤ reach) (hn : A = none → cap = 0) (he : (Rd.int .u8).elems w A p) :
    Calls Try.prog 5 #[.slice A p.length cap] w fun e w' => e = .returned (.bool true) ∧ Below w.heap.size w w' := by
  obtain ⟨h1, h2⟩ := bs_elems he
  have hr : reach = 140737488351232 := rfl
  exact form_1 w A cap p (by omega) h2 h1
namespace recordForm
open Go.ChangeShapes Go.WideShapes Go.ChangeAt Go.RowKit
open Go.ChangeMaps (open_string shut_string)
theorem own : ownKnob Try.prog.godebug = none := by kernel_rfl
theorem laidOut : laidOutB Try.prog = true := by kernel_rfl
set_option maxRecDepth 100000 in
theorem lifted (os : Os) (started : os.Started) (H : Type) (enc : TypeId × Value → H) :
    ReturnsInHanded {} Try.checked os 5 .any (Rows.recordFormSpec.pre6 enc Try.prog Try.f5 Rows.recordFormRow.domain false) (Rows.recordFormSpec.post enc Try.prog Try.f5 false true false false) := by
  refine returnsInHanded_of_change_sized (C := Try.checked) own started (by kernel_rfl) Try.func5
    (ChangeSpec.witness6 (enc := enc) (C := Try.checked) false ⟨#[], #[.slice none 0 0], []⟩ 8 (by kernel_rfl) (by kernel_rfl) (by kernel_rfl) (by kernel_rfl)) ?_
  intro W base args ds gs before hval0 hW hcnd hsz0 _
  have hsz : (DataW.weightsEach Try.prog (Try.f5.params.toList ++ Rows.recordFormSpec.plain.varTypes Try.prog) (ds ++ gs)).all (· ≤ reachBytes) = true := hsz0
  have hval : ∀ (j : Nat) t v, Try.f5.params[j]? = some t → args[j]? = some v → Value.okWide Try.prog W .any base t v := hval0
  have hW' := hW
  obtain ⟨p, q, hA0, hV, rfl, hfz, hnd⟩ := hW
  have hA : DataW.TrodAll enc Try.prog W 0 (fun _ => true) true Try.f5.params.toList args.toList ds p := hA0
  rw [Try.params5] at hA hval hsz
  obtain ⟨v0, vs0, d0, ds0, p0, q0, hargs, rfl, rfl, h0, r0⟩ := trodAll_cons hA
  obtain ⟨rfl, rfl, rfl⟩ := trodAll_nil r0
  obtain rfl : args = #[v0] := by cases args; simp_all
  obtain ⟨rfl, rfl⟩ := trodVars_none hV
  obtain ⟨a0, len0, cap0, rfl⟩ := okWide_slice Try.underlying22 (hval 0 22 v0 rfl rfl)
  have k0 := h0
  have lt0 : ∀ x ∈ p0, x.block < W.heap.size := by obtain ⟨m, hm⟩ := k0; exact DataW.trod_lt m _ _ _ hm
  obtain ⟨xs0, rfl, hc0, hm0, hb0, hn0, he0⟩ := opened_slice (opens_bs W) h0 (weights_at hsz (j := 0) (t := 22) rfl rfl)
  clear hA0 hval0 hsz0 hsz
  refine (RecordForm_walk W a0 cap0 xs0 hc0 hm0 hb0 hn0 he0).mono fun e W' ⟨he, bel⟩ => ?_
  subst he
  exact ⟨_, rfl, _, _, _, [], _, [], hW', trodAll_mk1 (shut_bool Try.underlying4 _), (trodAll_cons_mk (Below.trod laidOut (by kernel_rfl) (of_decide_eq_true (by kernel_rfl)) k0 bel lt0) trodAll_mk0), rfl, bel.frame _, fun h => by cases h⟩
theorem over : Rows.recordFormRow.holds Try.pinned (OpenSpec.ofChange Rows.recordFormSpec) :=
  OpenClaim.holds_of_wide 5 Try.f5 rfl rfl rfl rfl rfl rfl rfl ⟨rfl, rfl, rfl, rfl, rfl⟩ rfl rfl rfl rfl rfl (by kernel_rfl) Try.func5 (by kernel_rfl)
    (of_decide_eq_true (by kernel_rfl)) (by unfold Func.isWrapper; first | (rw [if_pos (by decide +kernel)]; kernel_rfl) | (rw [if_neg (by decide +kernel)]; exact ⟨rfl, rfl⟩))
    (fun os started H enc _ => lifted os started H enc)
theorem proved : Rows.RecordFormSaid := over
end recordForm
theorem recordForm_holds : Rows.RecordFormSaid := recordForm.proved
#print axioms recordForm_holds
end Go.Proofs.Ytjmmdpnphafdfaa
