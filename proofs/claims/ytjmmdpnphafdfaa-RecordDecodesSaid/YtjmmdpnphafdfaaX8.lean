/- RecordDecodes: Decode answers as the reference does. -/
import Derived.Test.YtjmmdpnphafdfaaX7
namespace Go.Proofs.Ytjmmdpnphafdfaa
set_option linter.unusedVariables false
set_option linter.unusedSimpArgs false
open Go.ChangeShapes Go.WideShapes Go.ChangeAt Go.RowKit Go.Deep Go.Proofs.YtjmmdpnphafdfaaW.PrintLast

set_option maxRecDepth 100000 in
set_option maxHeartbeats 4000000 in
theorem decodes_1 (w : World) (A : Option Addr) (cap : Nat) (p : List Int) (hl : p.length ≤ 140737488351232) (hp : BSrc w A p) (hb : Byt p) :
    Calls Try.prog 3 #[.slice A p.length cap] w fun e w' => e = .returned (.bool true) ∧ Below w.heap.size w w' := by
  have QD := Lib.hid (qdec_any (cc := cap) hp hb (by omega))
  have HP := Lib.hid hp
  have HBY := Lib.hid hb
  have HL := Lib.hid hl
  obtain ⟨r, hr⟩ : ∃ r, (decodeR p).1 = r := ⟨_, rfl⟩
  obtain ⟨ev, hev⟩ : ∃ x, (decodeR p).2 = x := ⟨_, rfl⟩
  have HR := Lib.hid hr
  have HEV := Lib.hid hev
  clear hp hb hl hr hev
  go_enter Try.func3, Try.ntmps3
  go_wp2_with (fail)
  refine QD.out.mono ?_
  rintro e w1 ⟨K, V, C, rfl, L1, hb1⟩
  rw [HR.out] at L1
  rw [HR.out, HEV.out]
  have HLK := Lib.hid (show r.op.key.length ≤ 140737488355328 ∧ r.op.val.length ≤ 140737488355328 ∧ r.copy.length ≤ 140737488355328 from ⟨L1.lk, L1.lv, L1.lc⟩)
  unfold recV
  have n1 := blk_new w1 (.cells (recCells r K V C) TRec (0, 0))
  have b1 : Below w1.heap.size w1 (w1.alloc (.cells (recCells r K V C) TRec (0, 0))) := (Below.refl _ _).alloc (Nat.le_refl _) _
  generalize hw2 : w1.alloc (.cells (recCells r K V C) TRec (0, 0)) = w2 at *
  have HX := Lib.hid n1
  have HB2 := Lib.hid (hb1.trans (b1.mono hb1.size))
  have LI := Lib.hid (L1.below b1)
  have LE := Lib.hid (lent_any (w := w2) (c0 := cap) (HP.out.below HB2.out) (by have := HL.out; omega))
  unfold recCells at hw2 ⊢
  have HW2 := Lib.hid hw2
  clear n1 b1 hb1 L1 hw2 QD
  go_upto_region 2 with (fail)
  rw [HW2.out]
  go_wp2_with (fail)
  refine LE.out.mono ?_
  rintro e w3 ⟨x, rfl, LX, hb3⟩
  have HB3 := Lib.hid (HB2.out.trans (hb3.mono HB2.out.size))
  have HX3 := Lib.hid (blk_below HX.out hb3)
  have LI3 := Lib.hid (LI.out.below hb3)
  have HLX := Lib.hid LX
  have DC := Lib.hid (decode_any HBY.out (by have := HL.out; omega) (c0 := x.2.2) LX.src)
  have ex : x.2.1 = p.length := LX.slAt.1
  rw [ex]
  have HEX := Lib.hid ex
  clear hb3 LX LE HX LI ex
  go_wp2_with (fail)
  refine DC.out.mono ?_
  rintro e w4 ⟨hb4, K2, V2, C2, rfl, CH⟩
  rw [HR.out] at CH
  rw [HR.out, HEV.out]
  have L2 := CH.lie HLK.out
  unfold recV
  have n4 := blk_new w4 (.cells (recCells r K2 V2 C2) TRec (0, 0))
  have b4 : Below w4.heap.size w4 (w4.alloc (.cells (recCells r K2 V2 C2) TRec (0, 0))) := (Below.refl _ _).alloc (Nat.le_refl _) _
  generalize hw5 : w4.alloc (.cells (recCells r K2 V2 C2) TRec (0, 0)) = w5 at *
  have hb5 := hb4.trans (b4.mono hb4.size)
  have HB5 := Lib.hid (HB3.out.trans (hb5.mono HB3.out.size))
  have HX5 := Lib.hid (blk_below HX3.out hb5)
  have HY5 := Lib.hid n4
  have LI5 := Lib.hid (LI3.out.below hb5)
  have LJ5 := Lib.hid (L2.below b4)
  have KE := Lib.hid (kept_any (c0 := cap) (HLX.out.below hb5) (HP.out.below HB5.out) (by have := HL.out; omega))
  unfold recCells at hw5 ⊢
  rw [HEX.out] at KE
  have HW5 := Lib.hid hw5
  clear n4 b4 hb4 L2 CH hw5 DC hb5 HX3 LI3
  go_upto_region 4 with (fail)
  rw [HW5.out]
  go_wp2_with (fail)
  refine KE.out.mono ?_
  rintro e w6 ⟨rfl, hb6⟩
  have HB6 := Lib.hid (HB5.out.trans (hb6.mono HB5.out.size))
  have SR := Lib.hid (sameRec_any (LI5.out.below hb6) (LJ5.out.below hb6))
  rw [show sameRB r r = true from (sameRB_iff _ _).2 rfl] at SR
  unfold recV recCells at SR
  have HX6 := Lib.hid (blk_below HX5.out hb6)
  have HY6 := Lib.hid (blk_below HY5.out hb6)
  clear hb6 KE
  have e0 : w6.cell? ⟨w1.heap.size, 0, none⟩ = some (.int .i64 r.kind) := cell_blk HX6.out 0 rfl
  have e1 : w6.cell? ⟨w1.heap.size, 1, none⟩ = some (.int .i64 r.shard) := cell_blk HX6.out 1 rfl
  have e2 : w6.cell? ⟨w1.heap.size, 2, none⟩ = some (.int .i64 r.epoch) := cell_blk HX6.out 2 rfl
  have e3 : w6.cell? ⟨w1.heap.size, 3, none⟩ = some (.int .i64 r.peer) := cell_blk HX6.out 3 rfl
  have e4 : w6.cell? ⟨w1.heap.size, 4, none⟩ = some (.int .i64 r.client) := cell_blk HX6.out 4 rfl
  have e5 : w6.cell? ⟨w1.heap.size, 5, none⟩ = some (.int .i64 r.seq) := cell_blk HX6.out 5 rfl
  have e6 : w6.cell? ⟨w1.heap.size, 6, none⟩ = some (.int .i64 r.op.kind) := cell_blk HX6.out 6 rfl
  have e7 : w6.cell? ⟨w1.heap.size, 7, none⟩ = some (.slice K.1 K.2.1 K.2.2) := cell_blk HX6.out 7 rfl
  have e8 : w6.cell? ⟨w1.heap.size, 8, none⟩ = some (.slice V.1 V.2.1 V.2.2) := cell_blk HX6.out 8 rfl
  have e9 : w6.cell? ⟨w1.heap.size, 9, none⟩ = some (.int .i64 r.op.rev) := cell_blk HX6.out 9 rfl
  have e10 : w6.cell? ⟨w1.heap.size, 10, none⟩ = some (.slice C.1 C.2.1 C.2.2) := cell_blk HX6.out 10 rfl
  have d0 : w6.cell? ⟨w4.heap.size, 0, none⟩ = some (.int .i64 r.kind) := cell_blk HY6.out 0 rfl
  have d1 : w6.cell? ⟨w4.heap.size, 1, none⟩ = some (.int .i64 r.shard) := cell_blk HY6.out 1 rfl
  have d2 : w6.cell? ⟨w4.heap.size, 2, none⟩ = some (.int .i64 r.epoch) := cell_blk HY6.out 2 rfl
  have d3 : w6.cell? ⟨w4.heap.size, 3, none⟩ = some (.int .i64 r.peer) := cell_blk HY6.out 3 rfl
  have d4 : w6.cell? ⟨w4.heap.size, 4, none⟩ = some (.int .i64 r.client) := cell_blk HY6.out 4 rfl
  have d5 : w6.cell? ⟨w4.heap.size, 5, none⟩ = some (.int .i64 r.seq) := cell_blk HY6.out 5 rfl
  have d6 : w6.cell? ⟨w4.heap.size, 6, none⟩ = some (.int .i64 r.op.kind) := cell_blk HY6.out 6 rfl
  have d7 : w6.cell? ⟨w4.heap.size, 7, none⟩ = some (.slice K2.1 K2.2.1 K2.2.2) := cell_blk HY6.out 7 rfl
  have d8 : w6.cell? ⟨w4.heap.size, 8, none⟩ = some (.slice V2.1 V2.2.1 V2.2.2) := cell_blk HY6.out 8 rfl
  have d9 : w6.cell? ⟨w4.heap.size, 9, none⟩ = some (.int .i64 r.op.rev) := cell_blk HY6.out 9 rfl
  have d10 : w6.cell? ⟨w4.heap.size, 10, none⟩ = some (.slice C2.1 C2.2.1 C2.2.2) := cell_blk HY6.out 10 rfl
  go_wp2_with (fail)
  refine SR.out.mono ?_
  rintro e w7 ⟨rfl, hb7⟩
  have HB7 := Lib.hid (HB6.out.trans (hb7.mono HB6.out.size))
  clear hb7
  go_wp2_with (fail)
  go_ret
  exact ⟨rfl, HB7.out⟩
theorem RecordDecodes_walk (w : World) (A : Option Addr) (cap : Nat) (p : List Int) (hc : p.length ≤ cap) (hm : cap ≤ maxLen) (hb : p.length * 1 ≤ reach) (hn : A = none → cap = 0) (he : (Rd.int .u8).elems w A p) :
    Calls Try.prog 3 #[.slice A p.length cap] w fun e w' => e = .returned (.bool true) ∧ Below w.heap.size w w' := by
  obtain ⟨h1, h2⟩ := bs_elems he
  have hr : reach = 140737488351232 := rfl
  exact decodes_1 w A cap p (by omega) h2 h1
namespace recordDecodes
open Go.ChangeShapes Go.WideShapes Go.ChangeAt Go.RowKit
open Go.ChangeMaps (open_string shut_string)
theorem own : ownKnob Try.prog.godebug = none := by kernel_rfl
theorem laidOut : laidOutB Try.prog = true := by kernel_rfl
set_option maxRecDepth 100000 in
theorem lifted (os : Os) (started : os.Started) (H : Type) (enc : TypeId × Value → H) :
    ReturnsInHanded {} Try.checked os 3 .any (Rows.recordDecodesSpec.pre6 enc Try.prog Try.f3 Rows.recordDecodesRow.domain false) (Rows.recordDecodesSpec.post enc Try.prog Try.f3 false true false false) := by
  refine returnsInHanded_of_change_sized (C := Try.checked) own started (by kernel_rfl) Try.func3
    (ChangeSpec.witness6 (enc := enc) (C := Try.checked) false ⟨#[], #[.slice none 0 0], []⟩ 8 (by kernel_rfl) (by kernel_rfl) (by kernel_rfl) (by kernel_rfl)) ?_
  intro W base args ds gs before hval0 hW hcnd hsz0 _
  have hsz : (DataW.weightsEach Try.prog (Try.f3.params.toList ++ Rows.recordDecodesSpec.plain.varTypes Try.prog) (ds ++ gs)).all (· ≤ reachBytes) = true := hsz0
  have hval : ∀ (j : Nat) t v, Try.f3.params[j]? = some t → args[j]? = some v → Value.okWide Try.prog W .any base t v := hval0
  have hW' := hW
  obtain ⟨p, q, hA0, hV, rfl, hfz, hnd⟩ := hW
  have hA : DataW.TrodAll enc Try.prog W 0 (fun _ => true) true Try.f3.params.toList args.toList ds p := hA0
  rw [Try.params3] at hA hval hsz
  obtain ⟨v0, vs0, d0, ds0, p0, q0, hargs, rfl, rfl, h0, r0⟩ := trodAll_cons hA
  obtain ⟨rfl, rfl, rfl⟩ := trodAll_nil r0
  obtain rfl : args = #[v0] := by cases args; simp_all
  obtain ⟨rfl, rfl⟩ := trodVars_none hV
  obtain ⟨a0, len0, cap0, rfl⟩ := okWide_slice Try.underlying22 (hval 0 22 v0 rfl rfl)
  have k0 := h0
  have lt0 : ∀ x ∈ p0, x.block < W.heap.size := by obtain ⟨m, hm⟩ := k0; exact DataW.trod_lt m _ _ _ hm
  obtain ⟨xs0, rfl, hc0, hm0, hb0, hn0, he0⟩ := opened_slice (opens_bs W) h0 (weights_at hsz (j := 0) (t := 22) rfl rfl)
  clear hA0 hval0 hsz0 hsz
  refine (RecordDecodes_walk W a0 cap0 xs0 hc0 hm0 hb0 hn0 he0).mono fun e W' ⟨he, bel⟩ => ?_
  subst he
  exact ⟨_, rfl, _, _, _, [], _, [], hW', trodAll_mk1 (shut_bool Try.underlying4 _), (trodAll_cons_mk (Below.trod laidOut (by kernel_rfl) (of_decide_eq_true (by kernel_rfl)) k0 bel lt0) trodAll_mk0), rfl, bel.frame _, fun h => by cases h⟩
theorem over : Rows.recordDecodesRow.holds Try.pinned (OpenSpec.ofChange Rows.recordDecodesSpec) :=
  OpenClaim.holds_of_wide 3 Try.f3 rfl rfl rfl rfl rfl rfl rfl ⟨rfl, rfl, rfl, rfl, rfl⟩ rfl rfl rfl rfl rfl (by kernel_rfl) Try.func3 (by kernel_rfl)
    (of_decide_eq_true (by kernel_rfl)) (by unfold Func.isWrapper; first | (rw [if_pos (by decide +kernel)]; kernel_rfl) | (rw [if_neg (by decide +kernel)]; exact ⟨rfl, rfl⟩))
    (fun os started H enc _ => lifted os started H enc)
theorem proved : Rows.RecordDecodesSaid := over
end recordDecodes
theorem recordDecodes_holds : Rows.RecordDecodesSaid := recordDecodes.proved
#print axioms recordDecodes_holds
end Go.Proofs.Ytjmmdpnphafdfaa
