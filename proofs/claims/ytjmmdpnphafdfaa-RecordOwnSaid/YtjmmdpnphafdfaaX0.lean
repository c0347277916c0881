/- A record that came in; same, sameRecord. -/
import Derived.Test.YtjmmdpnphafdfaaRW10
import Derived.Test.YtjmmdpnphafdfaaR
namespace Go.Proofs.Ytjmmdpnphafdfaa
set_option linter.unusedVariables false
set_option linter.unusedSimpArgs false
open Go.ChangeShapes Go.WideShapes Go.ChangeAt Go.RowKit Go.Deep Go.Proofs.YtjmmdpnphafdfaaW.PrintLast

abbrev RdBs : Rd (List Int) := Rd.slice (Rd.int .u8) 1
abbrev i64R : Rd Int := Rd.int .i64
abbrev RdOpc : Rd (Int × List Int × List Int × Int × Unit) := Rd.pair i64R (Rd.pair RdBs (Rd.pair RdBs (Rd.pair i64R Rd.unit)))
abbrev RdRec : Rd (Int × Int × Int × Int × Int × Int × (Int × List Int × List Int × Int × Unit) × List Int × Unit) :=
  Rd.pair i64R (Rd.pair i64R (Rd.pair i64R (Rd.pair i64R (Rd.pair i64R (Rd.pair i64R (Rd.pair RdOpc (Rd.pair RdBs Rd.unit)))))))
theorem opens_i64 (W : World) : Opens Try.prog W 3 i64R := opens_int Try.underlying3
theorem opens_bs (W : World) : Opens Try.prog W 22 RdBs := opens_slice Try.underlying22 (opens_int Try.underlying5) (by kernel_rfl) (by decide) (by kernel_rfl)
theorem opens_opc (W : World) : Opens Try.prog W 24 RdOpc :=
  opens_struct Try.underlying24 (by kernel_rfl) (opensFs_cons rfl (by kernel_rfl) (opens_i64 W) (opensFs_cons rfl (by kernel_rfl) (opens_bs W) (opensFs_cons rfl (by kernel_rfl) (opens_bs W) (opensFs_cons rfl (by kernel_rfl) (opens_i64 W) (opensFs_nil _)))))
theorem opens_rec (W : World) : Opens Try.prog W 26 RdRec :=
  opens_struct Try.underlying26 (by kernel_rfl) (opensFs_cons rfl (by kernel_rfl) (opens_i64 W) (opensFs_cons rfl (by kernel_rfl) (opens_i64 W) (opensFs_cons rfl (by kernel_rfl) (opens_i64 W) (opensFs_cons rfl (by kernel_rfl) (opens_i64 W)
    (opensFs_cons rfl (by kernel_rfl) (opens_i64 W) (opensFs_cons rfl (by kernel_rfl) (opens_i64 W) (opensFs_cons rfl (by kernel_rfl) (opens_opc W) (opensFs_cons rfl (by kernel_rfl) (opens_bs W) (opensFs_nil _)))))))))
/-- A struct that came in, opened. -/
theorem opened_struct {α : Type} {R : Rd α} {P : Program} {W : World} {t : TypeId} {cs : Array Value} {H : Type} {enc : TypeId × Value → H} {d : DataW H} {ps : List MemPlace} (hO : Opens P W t R)
    (h : DataW.Trod enc P W 0 (fun _ => true) true t (.agg cs) d ps) (hw : ∀ n ∈ d.weights P t, n ≤ reach) : ∃ x : α, R.rd W x cs.toList := by
  obtain ⟨fuel, hf⟩ := h
  exact hO H enc fuel _ d ps hf hw
theorem bs_elems {w : World} {A : Option Addr} {xs : List Int} (h : (Rd.int .u8).elems w A xs) : Byt xs ∧ BSrc w A xs := by
  have h256 : ∀ x : Int, (Lit.int .u8 x).wf = true → 0 ≤ x ∧ x < 256 := fun x hx => by
    simp only [Lit.wf, Bool.and_eq_true, decide_eq_true_eq] at hx
    have h1 : IntKind.u8.min = 0 := by decide
    have h2 : IntKind.u8.max = 255 := by decide
    omega
  refine ⟨fun x hx => ?_, fun hne => ?_⟩
  · obtain ⟨i, hi⟩ := List.getElem?_of_mem hx
    obtain ⟨b, o, cs, _, ⟨_, hw⟩, _⟩ := h i x hi
    exact h256 x hw
  · obtain ⟨y, t, rfl⟩ := List.exists_cons_of_ne_nil hne
    obtain ⟨b, o, cs, hA, _, _⟩ := h 0 y rfl
    refine ⟨b, o, hA, fun j x hx => ?_⟩
    obtain ⟨b', o', cs', hA', ⟨rfl, _⟩, hc⟩ := h j x hx
    rw [hA] at hA'
    injection hA' with hA'; injection hA' with e1 e2; subst e1; subst e2
    have := hc 0 _ rfl
    have e : (Rd.int IntKind.u8).sz = 1 := rfl
    rw [e] at this
    simpa using this
structure RecIn (w : World) (r : RZ) (K V C : SlB) : Prop where
  wf : r.Wf
  byt : r.Byt
  key : SlAt w w.heap.size K r.op.key
  val : SlAt w w.heap.size V r.op.val
  copy : SlAt w w.heap.size C r.copy
  lk : r.op.key.length ≤ reach
  lv : r.op.val.length ≤ reach
  lc : r.copy.length ≤ reach
theorem in64_wf {x : Int} (h : (Lit.int .i64 x).wf = true) : In64 x := by
  simp only [Lit.wf, Bool.and_eq_true, decide_eq_true_eq] at h
  have h1 : IntKind.i64.min = -9223372036854775808 := by decide
  have h2 : IntKind.i64.max = 9223372036854775807 := by decide
  rw [h1, h2] at h
  exact h
theorem rec_of {w : World} {x : _} {cs : Array Value} (h : RdRec.rd w x cs.toList) : ∃ r K V C, Value.agg cs = recV r K V C ∧ RecIn w r K V C := by
  obtain ⟨_, _, e0, ⟨rfl, h1⟩, _, _, rfl, ⟨rfl, h2⟩, _, _, rfl, ⟨rfl, h3⟩, _, _, rfl, ⟨rfl, h4⟩, _, _, rfl, ⟨rfl, h5⟩, _, _, rfl, ⟨rfl, h6⟩, _, _, rfl, ho, _, _, rfl, hc, rfl⟩ := h
  obtain ⟨_, _, rfl, ⟨rfl, o1⟩, _, _, rfl, hk, _, _, rfl, hv, _, _, rfl, ⟨rfl, o4⟩, rfl⟩ := ho
  obtain ⟨A, ca, rfl, a1, a2, a3, a4, a5⟩ := hk
  obtain ⟨B, cb, rfl, b1, b2, b3, b4, b5⟩ := hv
  obtain ⟨D, cd, rfl, d1, d2, d3, d4, d5⟩ := hc
  obtain ⟨ka, sa⟩ := bs_elems a5
  obtain ⟨kb, sb⟩ := bs_elems b5
  obtain ⟨kd, sd⟩ := bs_elems d5
  obtain ⟨xk, xs, xe, xp, xc, xq, ⟨yk, key, val, rev, u⟩, copy, u'⟩ := x
  simp only at *
  have hr : reach = 140737488351232 := rfl
  refine ⟨⟨xk, xs, xe, xp, xc, xq, ⟨yk, key, val, rev⟩, copy⟩, (A, key.length, ca), (B, val.length, cb), (D, copy.length, cd), ?_, ?_⟩
  · unfold recV recCells
    congr 1
    apply Array.toList_inj.1
    rw [e0]
    rfl
  · exact ⟨⟨in64_wf h3, in64_wf h4, in64_wf h5, in64_wf h6, in64_wf o1, in64_wf o4, by simp only; omega, by simp only; omega, by simp only; omega⟩, ⟨ka, kb, kd⟩, SlAt.ofSrc sa rfl (Nat.le_refl _), SlAt.ofSrc sb rfl (Nat.le_refl _), SlAt.ofSrc sd rfl (Nat.le_refl _), by simp only; omega, by simp only; omega, by simp only; omega⟩
theorem RecIn.below {w w' : World} {r : RZ} {K V C : SlB} (h : RecIn w r K V C) (hb : Below w.heap.size w w') : RecIn w' r K V C :=
  ⟨h.wf, h.byt, (h.key.below hb).mono hb.size, (h.val.below hb).mono hb.size, (h.copy.below hb).mono hb.size, h.lk, h.lv, h.lc⟩
set_option maxRecDepth 100000 in
set_option maxHeartbeats 4000000 in
theorem same_any {w : World} {A B : Option Addr} {c c' : Nat} {a b : List Int} (hA : BSrc w A a) (hB : BSrc w B b) (la : a.length ≤ 140737488355328) (lb : b.length ≤ 140737488355328) :
    Calls Try.prog 23 #[.slice A a.length c, .slice B b.length c'] w fun e w' => e = .returned (.bool (decide (a = b))) ∧ Below w.heap.size w w' := by
  by_cases hl : a.length = b.length
  · have HA := Lib.hid hA
    have HB := Lib.hid hB
    have HL := Lib.hid hl
    rw [← hl]
    obtain ⟨n, hn⟩ : ∃ n, a.length = n := ⟨_, rfl⟩
    have HN := Lib.hid hn
    rw [hn] at la ⊢
    clear hA hB hl hn lb
    go_enter Try.func23, Try.ntmps23
    go_upto_region 4 with (fail)
    refine wp_loop_ghost_k (fun (m : Nat) (ac : Act) (wr : World) => ∃ u2 u3 u4 u6 u7 u8 u9 u10 u11 u12 u13 u14 u15 u16 u17 u18 u19 u20 u21 u22 u23 u24 u25 v5 : Value, (∃ i : Nat, m + i = n ∧ v5 = .int .i64 i ∧ a.take i = b.take i ∧ Below w.heap.size w wr ∧ wr.heap = w.heap) ∧ ac = ({ tmps := #[.slice A n c, .slice B n c', u2, u3, u4, v5, u6, u7, u8, u9, u10, u11, u12, u13, u14, u15, u16, u17, u18, u19, u20, u21, u22, u23, u24, u25], defers := [] } : Act)) (n) ?atStart ?round
    case' atStart => ((repeat apply Exists.intro); refine ⟨?_, rfl⟩)
    case' round => (intro m ac wr hcut; obtain ⟨u2, hcut⟩ := hcut; obtain ⟨u3, hcut⟩ := hcut; obtain ⟨u4, hcut⟩ := hcut; obtain ⟨u6, hcut⟩ := hcut; obtain ⟨u7, hcut⟩ := hcut; obtain ⟨u8, hcut⟩ := hcut; obtain ⟨u9, hcut⟩ := hcut; obtain ⟨u10, hcut⟩ := hcut; obtain ⟨u11, hcut⟩ := hcut; obtain ⟨u12, hcut⟩ := hcut; obtain ⟨u13, hcut⟩ := hcut; obtain ⟨u14, hcut⟩ := hcut; obtain ⟨u15, hcut⟩ := hcut; obtain ⟨u16, hcut⟩ := hcut; obtain ⟨u17, hcut⟩ := hcut; obtain ⟨u18, hcut⟩ := hcut; obtain ⟨u19, hcut⟩ := hcut; obtain ⟨u20, hcut⟩ := hcut; obtain ⟨u21, hcut⟩ := hcut; obtain ⟨u22, hcut⟩ := hcut; obtain ⟨u23, hcut⟩ := hcut; obtain ⟨u24, hcut⟩ := hcut; obtain ⟨u25, hcut⟩ := hcut; obtain ⟨v5, hcut⟩ := hcut; obtain ⟨hcut, hac⟩ := hcut; subst hac; intro _ _ _ _)
    case atStart => exact ⟨0, rfl, rfl, by simp, Below.refl _ _, rfl⟩
    case round =>
      obtain ⟨i, hi, rfl, ht, hB, hh⟩ := hcut
      have HI := Lib.hid hi
      have HBB := Lib.hid hB
      have HH := Lib.hid hh
      have HT := Lib.hid ht
      have hile : i ≤ n := by omega
      clear hi hB hh ht
      by_cases hlt : i < n
      · have hia : i < a.length := by rw [HN.out]; exact hlt
        have hib : i < b.length := by rw [← HL.out, HN.out]; exact hlt
        obtain ⟨g, o, hAe, HAb⟩ := HA.out (by rintro rfl; simp at hia)
        obtain ⟨g', o', hBe, HBb⟩ := HB.out (by rintro rfl; simp at hib)
        subst hAe
        subst hBe
        obtain ⟨x, hx⟩ : ∃ x, a[i]? = some x := ⟨_, List.getElem?_eq_getElem hia⟩
        obtain ⟨y, hy⟩ : ∃ y, b[i]? = some y := ⟨_, List.getElem?_eq_getElem hib⟩
        have x0 : wr.cell? ⟨g, o + i, none⟩ = some (.int .u8 x) := cell_of' (HAb i _ hx) (by rw [HH.out])
        have y0 : wr.cell? ⟨g', o' + i, none⟩ = some (.int .u8 y) := cell_of' (HBb i _ hy) (by rw [HH.out])
        have HAI := Lib.hid hx
        have HBI := Lib.hid hy
        clear HAb HBb hia hib hx hy
        have q0 : (0 : Int) ≤ (i : Int) := by omega
        have q1 : (i : Int) < (n : Int) := by omega
        obtain ⟨t1, h1⟩ := named (x != y)
        go_wp2_with (fail)
        refine start_ (n := 9) (S := fun w' => w'.cell? ⟨g, o + i, none⟩ = some (.int .u8 x) ∧ w'.cell? ⟨g', o' + i, none⟩ = some (.int .u8 y)) (ds := []) #[false, false, false, false, false, false, false, false, false] (by kernel_rfl) rfl rfl ⟨x0, y0⟩ (fun hHeld => ?_)
        (refine take_ (i := 0) (N := some 17) (v := ?v_2) (a' := ?a_2) #[true, false, false, false, false, false, false, false, false] rfl rfl (by kernel_rfl) (fun _ _ _ h => h) (Or.inl ⟨by rfl, ?hy_2⟩) hHeld ?ha_2 ?hh_2; (case hy_2 => (rintro w' ⟨s0_, s1_⟩; go_simp; with_reducible rfl)); (case ha_2 => (simp (disch := omega) only [Act.put, List.setIfInBounds_toArray, List.set_cons_zero, List.set_cons_succ, wrap_in]; rfl)))
        (refine take_ (i := 1) (N := some 18) (v := ?v_3) (a' := ?a_3) #[true, true, false, false, false, false, false, false, false] rfl rfl (by kernel_rfl) (fun _ _ _ h => h) (Or.inl ⟨by rfl, ?hy_3⟩) hHeld ?ha_3 ?hh_3; (case hy_3 => (rintro w' ⟨s0_, s1_⟩; go_simp; with_reducible rfl)); (case ha_3 => (simp (disch := omega) only [Act.put, List.setIfInBounds_toArray, List.set_cons_zero, List.set_cons_succ, wrap_in]; rfl)))
        (refine take_ (i := 2) (N := some 19) (v := ?v_4) (a' := ?a_4) #[true, true, true, false, false, false, false, false, false] rfl rfl (by kernel_rfl) (fun _ _ _ h => h) (Or.inl ⟨by rfl, ?hy_4⟩) hHeld ?ha_4 ?hh_4; (case hy_4 => (rintro w' ⟨s0_, s1_⟩; go_simp; with_reducible rfl)); (case ha_4 => (simp (disch := omega) only [Act.put, List.setIfInBounds_toArray, List.set_cons_zero, List.set_cons_succ, wrap_in]; rfl)))
        (refine take_ (i := 3) (N := some 20) (v := ?v_5) (a' := ?a_5) #[true, true, true, true, false, false, false, false, false] rfl rfl (by kernel_rfl) (fun _ _ _ h => h) (Or.inl ⟨by rfl, ?hy_5⟩) hHeld ?ha_5 ?hh_5; (case hy_5 => (rintro w' ⟨s0_, s1_⟩; go_simp; with_reducible rfl)); (case ha_5 => (simp (disch := omega) only [Act.put, List.setIfInBounds_toArray, List.set_cons_zero, List.set_cons_succ, wrap_in]; rfl)))
        (refine take_ (i := 4) (N := some 21) (v := ?v_6) (a' := ?a_6) #[true, true, true, true, true, false, false, false, false] rfl rfl (by kernel_rfl) (fun _ _ _ h => h) (Or.inl ⟨by rfl, ?hy_6⟩) hHeld ?ha_6 ?hh_6; (case hy_6 => (rintro w' ⟨s0_, s1_⟩; go_simp; with_reducible rfl)); (case ha_6 => (simp (disch := omega) only [Act.put, List.setIfInBounds_toArray, List.set_cons_zero, List.set_cons_succ, wrap_in]; rfl)))
        (refine take_ (i := 5) (N := some 22) (v := ?v_7) (a' := ?a_7) #[true, true, true, true, true, true, false, false, false] rfl rfl (by kernel_rfl) (fun _ _ _ h => h) (Or.inl ⟨by rfl, ?hy_7⟩) hHeld ?ha_7 ?hh_7; (case hy_7 => (rintro w' ⟨s0_, s1_⟩; go_simp; with_reducible rfl)); (case ha_7 => (simp (disch := omega) only [Act.put, List.setIfInBounds_toArray, List.set_cons_zero, List.set_cons_succ, wrap_in]; rfl)))
        (refine take_ (i := 6) (N := some 23) (v := ?v_8) (a' := ?a_8) #[true, true, true, true, true, true, true, false, false] rfl rfl (by kernel_rfl) (fun _ _ _ h => h) (Or.inl ⟨by rfl, ?hy_8⟩) hHeld ?ha_8 ?hh_8; (case hy_8 => (rintro w' ⟨s0_, s1_⟩; go_simp; with_reducible rfl)); (case ha_8 => (simp (disch := omega) only [Act.put, List.setIfInBounds_toArray, List.set_cons_zero, List.set_cons_succ, wrap_in]; rfl)))
        (refine take_ (i := 7) (N := some 24) (v := ?v_9) (a' := ?a_9) #[true, true, true, true, true, true, true, true, false] rfl rfl (by kernel_rfl) (fun _ _ _ h => h) (Or.inl ⟨by rfl, ?hy_9⟩) hHeld ?ha_9 ?hh_9; (case hy_9 => (rintro w' ⟨s0_, s1_⟩; go_simp; with_reducible rfl)); (case ha_9 => (simp (disch := omega) only [Act.put, List.setIfInBounds_toArray, List.set_cons_zero, List.set_cons_succ, wrap_in]; rfl)))
        (refine take_ (i := 8) (N := some 25) (v := ?v_10) (a' := ?a_10) #[true, true, true, true, true, true, true, true, true] rfl rfl (by kernel_rfl) (fun _ _ _ h => h) (Or.inl ⟨by rfl, ?hy_10⟩) hHeld ?ha_10 ?hh_10; (case hy_10 => (rintro w' ⟨s0_, s1_⟩; go_simp; with_reducible rfl)); (case ha_10 => (simp (disch := omega) only [Act.put, List.setIfInBounds_toArray, List.set_cons_zero, List.set_cons_succ, wrap_in]; rfl)))
        refine done_ (by kernel_rfl) ?_
        cases t1
        · have hxy : x = y := by simpa using h1
          have HXY := Lib.hid hxy
          clear hxy
          go_wp2_with (fail)
          go_roundg (m - 1)
          case measure => have := HI.out; omega
          case rel => exact ⟨i + 1, by have := HI.out; omega, by go_num, by rw [List.take_add_one, List.take_add_one, HAI.out, HBI.out, HT.out, HXY.out], HBB.out.drew, HH.out⟩
        · have hxy : ¬ x = y := by simpa using h1
          have HXY := Lib.hid hxy
          clear hxy
          go_wp2_with (fail)
          go_ret
          refine ⟨by rw [decide_eq_false (show ¬ a = b from fun e => by have h1 := HAI.out; rw [e, HBI.out] at h1; exact HXY.out (Option.some.inj h1).symm)]; rfl, HBB.out.drew⟩
      · go_wp2_with (fail)
        go_ret
        have hin : i = n := by omega
        have h2 := HT.out
        rw [hin, List.take_of_length_le (Nat.le_of_eq HN.out), List.take_of_length_le (Nat.le_of_eq (HL.out.symm.trans HN.out))] at h2
        exact ⟨by rw [decide_eq_true h2]; rfl, HBB.out⟩
  · have HNE := Lib.hid (show decide (a = b) = false from decide_eq_false (fun e => hl (congrArg List.length e)))
    have hl' : ¬ (a.length : Int) = (b.length : Int) := by omega
    generalize a.length = n at *
    generalize b.length = k at *
    clear hA hB hl
    go_enter Try.func23, Try.ntmps23
    go_wp2_with (fail)
    go_ret
    exact ⟨by rw [HNE.out]; rfl, Below.refl _ _⟩
def sameRB (r q : RZ) : Bool := (r.kind == q.kind && (r.shard == q.shard && (r.epoch == q.epoch && (r.peer == q.peer && (r.client == q.client && r.seq == q.seq))))) && ((r.op.kind == q.op.kind && (decide (r.op.key = q.op.key) && (decide (r.op.val = q.op.val) && r.op.rev == q.op.rev))) && decide (r.copy = q.copy))
theorem sameRB_iff (r q : RZ) : sameRB r q = true ↔ r = q := by
  obtain ⟨a1, a2, a3, a4, a5, a6, ⟨a7, a8, a9, a10⟩, a11⟩ := r
  obtain ⟨b1, b2, b3, b4, b5, b6, ⟨b7, b8, b9, b10⟩, b11⟩ := q
  unfold sameRB
  simp only [Bool.and_eq_true, beq_iff_eq, decide_eq_true_eq, RZ.mk.injEq, OpZ.mk.injEq]
  constructor
  · rintro ⟨⟨h1, h2, h3, h4, h5, h6⟩, ⟨h7, h8, h9, h10⟩, h11⟩
    exact ⟨h1, h2, h3, h4, h5, h6, ⟨h7, h8, h9, h10⟩, h11⟩
  · rintro ⟨h1, h2, h3, h4, h5, h6, ⟨h7, h8, h9, h10⟩, h11⟩
    exact ⟨⟨h1, h2, h3, h4, h5, h6⟩, ⟨h7, h8, h9, h10⟩, h11⟩
/-- A record whose texts lie somewhere. -/
structure RecLie (w : World) (r : RZ) (K V C : SlB) : Prop where
  key : K.2.1 = r.op.key.length ∧ BSrc w K.1 r.op.key
  val : V.2.1 = r.op.val.length ∧ BSrc w V.1 r.op.val
  copy : C.2.1 = r.copy.length ∧ BSrc w C.1 r.copy
  lk : r.op.key.length ≤ 140737488355328
  lv : r.op.val.length ≤ 140737488355328
  lc : r.copy.length ≤ 140737488355328
theorem RecLie.below {w w' : World} {r : RZ} {K V C : SlB} (h : RecLie w r K V C) (hb : Below w.heap.size w w') : RecLie w' r K V C :=
  ⟨⟨h.key.1, h.key.2.below hb⟩, ⟨h.val.1, h.val.2.below hb⟩, ⟨h.copy.1, h.copy.2.below hb⟩, h.lk, h.lv, h.lc⟩
theorem RecIn.lie {w : World} {r : RZ} {K V C : SlB} (h : RecIn w r K V C) : RecLie w r K V C :=
  ⟨⟨h.key.1, h.key.2.1⟩, ⟨h.val.1, h.val.2.1⟩, ⟨h.copy.1, h.copy.2.1⟩, h.wf.key, h.wf.val, h.wf.copy⟩
set_option maxRecDepth 100000 in
set_option maxHeartbeats 8000000 in
theorem sameRec_any {w : World} {r q : RZ} {K V C K' V' C' : SlB} (h : RecLie w r K V C) (h' : RecLie w q K' V' C') :
    Calls Try.prog 15 #[recV r K V C, recV q K' V' C'] w fun e w' => e = .returned (.bool (sameRB r q)) ∧ Below w.heap.size w w' := by
  obtain ⟨S, hS⟩ : ∃ S, sameRB r q = S := ⟨_, rfl⟩
  have HS := Lib.hid hS
  rw [hS]
  clear hS
  have SK := Lib.hid (fun (w1 : World) (hB : Below w.heap.size w w1) => same_any (w := w1) (c := K.2.2) (c' := K'.2.2) (h.key.2.below hB) (h'.key.2.below hB) h.lk h'.lk)
  have SV := Lib.hid (fun (w1 : World) (hB : Below w.heap.size w w1) => same_any (w := w1) (c := V.2.2) (c' := V'.2.2) (h.val.2.below hB) (h'.val.2.below hB) h.lv h'.lv)
  have SC := Lib.hid (fun (w1 : World) (hB : Below w.heap.size w w1) => same_any (w := w1) (c := C.2.2) (c' := C'.2.2) (h.copy.2.below hB) (h'.copy.2.below hB) h.lc h'.lc)
  have eK := h.key.1
  have eV := h.val.1
  have eC := h.copy.1
  have eK' := h'.key.1
  have eV' := h'.val.1
  have eC' := h'.copy.1
  unfold recV recCells
  rw [eK, eV, eC, eK', eV', eC']
  generalize hn1 : r.op.key.length = n1 at *
  generalize hn2 : r.op.val.length = n2 at *
  generalize hn3 : r.copy.length = n3 at *
  generalize hm1 : q.op.key.length = m1 at *
  generalize hm2 : q.op.val.length = m2 at *
  generalize hm3 : q.copy.length = m3 at *
  clear eK eV eC eK' eV' eC' hn1 hn2 hn3 hm1 hm2 hm3 h h'
  obtain ⟨b0, h0⟩ := named (r.kind == q.kind)
  obtain ⟨b1, h1⟩ := named (r.shard == q.shard)
  obtain ⟨b2, h2⟩ := named (r.epoch == q.epoch)
  obtain ⟨b3, h3⟩ := named (r.peer == q.peer)
  obtain ⟨b4, h4⟩ := named (r.client == q.client)
  obtain ⟨b5, h5⟩ := named (r.seq == q.seq)
  obtain ⟨b6, h6⟩ := named (r.op.kind == q.op.kind)
  obtain ⟨b7, h7⟩ := named (decide (r.op.key = q.op.key))
  obtain ⟨b8, h8⟩ := named (decide (r.op.val = q.op.val))
  obtain ⟨b9, h9⟩ := named (r.op.rev == q.op.rev)
  obtain ⟨b10, h10⟩ := named (decide (r.copy = q.copy))
  rw [h7] at SK
  rw [h8] at SV
  rw [h10] at SC
  have HSS := Lib.hid (show S = ((b0 && (b1 && (b2 && (b3 && (b4 && b5))))) && ((b6 && (b7 && (b8 && b9))) && b10)) from by
    rw [← HS.out]
    unfold sameRB
    rw [h0, h1, h2, h3, h4, h5, h6, h7, h8, h9, h10])
  clear h7 h8 h10
  obtain ⟨x1, x2⟩ := two_blks w (.cells #[.int .i64 r.kind, .int .i64 r.shard, .int .i64 r.epoch, .int .i64 r.peer, .int .i64 r.client, .int .i64 r.seq, .int .i64 r.op.kind, .slice K.1 n1 K.2.2, .slice V.1 n2 V.2.2, .int .i64 r.op.rev, .slice C.1 n3 C.2.2] TRec (0, 0)) (.cells #[.int .i64 q.kind, .int .i64 q.shard, .int .i64 q.epoch, .int .i64 q.peer, .int .i64 q.client, .int .i64 q.seq, .int .i64 q.op.kind, .slice K'.1 m1 K'.2.2, .slice V'.1 m2 V'.2.2, .int .i64 q.op.rev, .slice C'.1 m3 C'.2.2] TRec (0, 0))
  have BB : Below w.heap.size w ((w.alloc (.cells #[.int .i64 r.kind, .int .i64 r.shard, .int .i64 r.epoch, .int .i64 r.peer, .int .i64 r.client, .int .i64 r.seq, .int .i64 r.op.kind, .slice K.1 n1 K.2.2, .slice V.1 n2 V.2.2, .int .i64 r.op.rev, .slice C.1 n3 C.2.2] TRec (0, 0))).alloc (.cells #[.int .i64 q.kind, .int .i64 q.shard, .int .i64 q.epoch, .int .i64 q.peer, .int .i64 q.client, .int .i64 q.seq, .int .i64 q.op.kind, .slice K'.1 m1 K'.2.2, .slice V'.1 m2 V'.2.2, .int .i64 q.op.rev, .slice C'.1 m3 C'.2.2] TRec (0, 0))) :=
    ((Below.refl _ _).alloc (Nat.le_refl _) _).alloc (by simp) _
  generalize hw1 : (w.alloc _).alloc _ = w1 at x1 x2 BB
  have HX1 := Lib.hid x1
  have HX2 := Lib.hid x2
  have HBB := Lib.hid BB
  have HW1 := Lib.hid hw1
  clear x1 x2 BB hw1
  obtain ⟨nb, hnb⟩ := named (b0 && (b1 && (b2 && (b3 && (b4 && b5)))))
  rw [hnb] at HSS
  go_enter Try.func15, Try.ntmps15
  go_upto_region 1 with (fail)
  rw [HW1.out]
  have e0 : w1.cell? ⟨w.heap.size, 0, none⟩ = some (.int .i64 r.kind) := cell_blk HX1.out 0 rfl
  have e1 : w1.cell? ⟨w.heap.size, 1, none⟩ = some (.int .i64 r.shard) := cell_blk HX1.out 1 rfl
  have e2 : w1.cell? ⟨w.heap.size, 2, none⟩ = some (.int .i64 r.epoch) := cell_blk HX1.out 2 rfl
  have e3 : w1.cell? ⟨w.heap.size, 3, none⟩ = some (.int .i64 r.peer) := cell_blk HX1.out 3 rfl
  have e4 : w1.cell? ⟨w.heap.size, 4, none⟩ = some (.int .i64 r.client) := cell_blk HX1.out 4 rfl
  have e5 : w1.cell? ⟨w.heap.size, 5, none⟩ = some (.int .i64 r.seq) := cell_blk HX1.out 5 rfl
  have e6 : w1.cell? ⟨w.heap.size, 6, none⟩ = some (.int .i64 r.op.kind) := cell_blk HX1.out 6 rfl
  have e7 : w1.cell? ⟨w.heap.size, 7, none⟩ = some (.slice K.1 n1 K.2.2) := cell_blk HX1.out 7 rfl
  have e8 : w1.cell? ⟨w.heap.size, 8, none⟩ = some (.slice V.1 n2 V.2.2) := cell_blk HX1.out 8 rfl
  have e9 : w1.cell? ⟨w.heap.size, 9, none⟩ = some (.int .i64 r.op.rev) := cell_blk HX1.out 9 rfl
  have e10 : w1.cell? ⟨w.heap.size, 10, none⟩ = some (.slice C.1 n3 C.2.2) := cell_blk HX1.out 10 rfl
  have d0 : w1.cell? ⟨w.heap.size + 1, 0, none⟩ = some (.int .i64 q.kind) := cell_blk HX2.out 0 rfl
  have d1 : w1.cell? ⟨w.heap.size + 1, 1, none⟩ = some (.int .i64 q.shard) := cell_blk HX2.out 1 rfl
  have d2 : w1.cell? ⟨w.heap.size + 1, 2, none⟩ = some (.int .i64 q.epoch) := cell_blk HX2.out 2 rfl
  have d3 : w1.cell? ⟨w.heap.size + 1, 3, none⟩ = some (.int .i64 q.peer) := cell_blk HX2.out 3 rfl
  have d4 : w1.cell? ⟨w.heap.size + 1, 4, none⟩ = some (.int .i64 q.client) := cell_blk HX2.out 4 rfl
  have d5 : w1.cell? ⟨w.heap.size + 1, 5, none⟩ = some (.int .i64 q.seq) := cell_blk HX2.out 5 rfl
  have d6 : w1.cell? ⟨w.heap.size + 1, 6, none⟩ = some (.int .i64 q.op.kind) := cell_blk HX2.out 6 rfl
  have d7 : w1.cell? ⟨w.heap.size + 1, 7, none⟩ = some (.slice K'.1 m1 K'.2.2) := cell_blk HX2.out 7 rfl
  have d8 : w1.cell? ⟨w.heap.size + 1, 8, none⟩ = some (.slice V'.1 m2 V'.2.2) := cell_blk HX2.out 8 rfl
  have d9 : w1.cell? ⟨w.heap.size + 1, 9, none⟩ = some (.int .i64 q.op.rev) := cell_blk HX2.out 9 rfl
  have d10 : w1.cell? ⟨w.heap.size + 1, 10, none⟩ = some (.slice C'.1 m3 C'.2.2) := cell_blk HX2.out 10 rfl
  refine wp_cut (fun (ac : Act) (wx : World) => ∃ u6 u7 u8 u9 u10 u11 u12 u13 u14 u15 u16 u17 u18 u19 u20 u21 u22 u23 u24 u25 u26 u27 u28 u29 u30 u31 u32 u33 u34 u35 u36 u37 u38 u39 u40 u41 u42 u43 u44 u45 u46 u47 u48 u49 u50 u51 u52 u53 u54 u55 u56 u57 u58 u59 u60 u61 u62 u63 u64 u65 u66 u67 u68 u69 u70 u71 u72 u73 u74 u75 u76 u77 u78 u79 u80 u81 u82 u83 u84 u85 u86 u87 u88 u89 u90 u91 v0 v1 v5 : Value, (v5 = .bool nb ∧ wx = w1) ∧ ac = ({ tmps := #[v0, v1, .pointer (some ⟨w.heap.size, 0, none⟩), .pointer (some ⟨w.heap.size + 1, 0, none⟩), .bool false, v5, u6, u7, u8, u9, u10, u11, u12, u13, u14, u15, u16, u17, u18, u19, u20, u21, u22, u23, u24, u25, u26, u27, u28, u29, u30, u31, u32, u33, u34, u35, u36, u37, u38, u39, u40, u41, u42, u43, u44, u45, u46, u47, u48, u49, u50, u51, u52, u53, u54, u55, u56, u57, u58, u59, u60, u61, u62, u63, u64, u65, u66, u67, u68, u69, u70, u71, u72, u73, u74, u75, u76, u77, u78, u79, u80, u81, u82, u83, u84, u85, u86, u87, u88, u89, u90, u91], defers := [] } : Act)) ?rest ?first
  case' rest => (intro ac wx hcut; obtain ⟨u6, hcut⟩ := hcut; obtain ⟨u7, hcut⟩ := hcut; obtain ⟨u8, hcut⟩ := hcut; obtain ⟨u9, hcut⟩ := hcut; obtain ⟨u10, hcut⟩ := hcut; obtain ⟨u11, hcut⟩ := hcut; obtain ⟨u12, hcut⟩ := hcut; obtain ⟨u13, hcut⟩ := hcut; obtain ⟨u14, hcut⟩ := hcut; obtain ⟨u15, hcut⟩ := hcut; obtain ⟨u16, hcut⟩ := hcut; obtain ⟨u17, hcut⟩ := hcut; obtain ⟨u18, hcut⟩ := hcut; obtain ⟨u19, hcut⟩ := hcut; obtain ⟨u20, hcut⟩ := hcut; obtain ⟨u21, hcut⟩ := hcut; obtain ⟨u22, hcut⟩ := hcut; obtain ⟨u23, hcut⟩ := hcut; obtain ⟨u24, hcut⟩ := hcut; obtain ⟨u25, hcut⟩ := hcut; obtain ⟨u26, hcut⟩ := hcut; obtain ⟨u27, hcut⟩ := hcut; obtain ⟨u28, hcut⟩ := hcut; obtain ⟨u29, hcut⟩ := hcut; obtain ⟨u30, hcut⟩ := hcut; obtain ⟨u31, hcut⟩ := hcut; obtain ⟨u32, hcut⟩ := hcut; obtain ⟨u33, hcut⟩ := hcut; obtain ⟨u34, hcut⟩ := hcut; obtain ⟨u35, hcut⟩ := hcut; obtain ⟨u36, hcut⟩ := hcut; obtain ⟨u37, hcut⟩ := hcut; obtain ⟨u38, hcut⟩ := hcut; obtain ⟨u39, hcut⟩ := hcut; obtain ⟨u40, hcut⟩ := hcut; obtain ⟨u41, hcut⟩ := hcut; obtain ⟨u42, hcut⟩ := hcut; obtain ⟨u43, hcut⟩ := hcut; obtain ⟨u44, hcut⟩ := hcut; obtain ⟨u45, hcut⟩ := hcut; obtain ⟨u46, hcut⟩ := hcut; obtain ⟨u47, hcut⟩ := hcut; obtain ⟨u48, hcut⟩ := hcut; obtain ⟨u49, hcut⟩ := hcut; obtain ⟨u50, hcut⟩ := hcut; obtain ⟨u51, hcut⟩ := hcut; obtain ⟨u52, hcut⟩ := hcut; obtain ⟨u53, hcut⟩ := hcut; obtain ⟨u54, hcut⟩ := hcut; obtain ⟨u55, hcut⟩ := hcut; obtain ⟨u56, hcut⟩ := hcut; obtain ⟨u57, hcut⟩ := hcut; obtain ⟨u58, hcut⟩ := hcut; obtain ⟨u59, hcut⟩ := hcut; obtain ⟨u60, hcut⟩ := hcut; obtain ⟨u61, hcut⟩ := hcut; obtain ⟨u62, hcut⟩ := hcut; obtain ⟨u63, hcut⟩ := hcut; obtain ⟨u64, hcut⟩ := hcut; obtain ⟨u65, hcut⟩ := hcut; obtain ⟨u66, hcut⟩ := hcut; obtain ⟨u67, hcut⟩ := hcut; obtain ⟨u68, hcut⟩ := hcut; obtain ⟨u69, hcut⟩ := hcut; obtain ⟨u70, hcut⟩ := hcut; obtain ⟨u71, hcut⟩ := hcut; obtain ⟨u72, hcut⟩ := hcut; obtain ⟨u73, hcut⟩ := hcut; obtain ⟨u74, hcut⟩ := hcut; obtain ⟨u75, hcut⟩ := hcut; obtain ⟨u76, hcut⟩ := hcut; obtain ⟨u77, hcut⟩ := hcut; obtain ⟨u78, hcut⟩ := hcut; obtain ⟨u79, hcut⟩ := hcut; obtain ⟨u80, hcut⟩ := hcut; obtain ⟨u81, hcut⟩ := hcut; obtain ⟨u82, hcut⟩ := hcut; obtain ⟨u83, hcut⟩ := hcut; obtain ⟨u84, hcut⟩ := hcut; obtain ⟨u85, hcut⟩ := hcut; obtain ⟨u86, hcut⟩ := hcut; obtain ⟨u87, hcut⟩ := hcut; obtain ⟨u88, hcut⟩ := hcut; obtain ⟨u89, hcut⟩ := hcut; obtain ⟨u90, hcut⟩ := hcut; obtain ⟨u91, hcut⟩ := hcut; obtain ⟨v0, hcut⟩ := hcut; obtain ⟨v1, hcut⟩ := hcut; obtain ⟨v5, hcut⟩ := hcut; obtain ⟨hcut, hac⟩ := hcut; subst hac)
  case' first => intro _ _ _ _
  case first =>
    go_wp2_with (fail)
    all_goals go_meet
    all_goals exact ⟨by simp_all, rfl⟩
  case rest =>
  obtain ⟨rfl, hwx⟩ := hcut
  subst wx
  clear h0 h1 h2 h3 h4 h5 hnb
  obtain ⟨ob, hob⟩ := named (b6 && (b7 && (b8 && b9)))
  have HOB := Lib.hid hob
  rw [hob] at HSS
  go_upto_region 2 with (fail)
  refine wp_cut (fun (ac : Act) (wx : World) => ∃ u7 u8 u9 u10 u11 u12 u13 u14 u15 u16 u17 u18 u19 u20 u21 u22 u23 u24 u25 u26 u27 u28 u29 u30 u31 u32 u33 u34 u35 u36 u37 u38 u39 u40 u41 u42 u43 u44 u45 u46 u47 u48 u49 u50 u51 u52 u53 u54 u55 u56 u57 u58 u59 u60 u61 u62 u63 u64 u65 u66 u67 u68 u69 u70 u71 u72 u73 u74 u75 u76 u77 u78 u79 u80 u81 u82 u83 u84 u85 u86 u87 u88 u89 u90 u91 v0 v1 v6 : Value, (v6 = .bool ob ∧ Below w1.heap.size w1 wx) ∧ ac = ({ tmps := #[v0, v1, .pointer (some ⟨w.heap.size, 0, none⟩), .pointer (some ⟨w.heap.size + 1, 0, none⟩), .bool false, .bool nb, v6, u7, u8, u9, u10, u11, u12, u13, u14, u15, u16, u17, u18, u19, u20, u21, u22, u23, u24, u25, u26, u27, u28, u29, u30, u31, u32, u33, u34, u35, u36, u37, u38, u39, u40, u41, u42, u43, u44, u45, u46, u47, u48, u49, u50, u51, u52, u53, u54, u55, u56, u57, u58, u59, u60, u61, u62, u63, u64, u65, u66, u67, u68, u69, u70, u71, u72, u73, u74, u75, u76, u77, u78, u79, u80, u81, u82, u83, u84, u85, u86, u87, u88, u89, u90, u91], defers := [] } : Act)) ?rest ?first
  case' rest => (intro ac wx hcut; obtain ⟨u7, hcut⟩ := hcut; obtain ⟨u8, hcut⟩ := hcut; obtain ⟨u9, hcut⟩ := hcut; obtain ⟨u10, hcut⟩ := hcut; obtain ⟨u11, hcut⟩ := hcut; obtain ⟨u12, hcut⟩ := hcut; obtain ⟨u13, hcut⟩ := hcut; obtain ⟨u14, hcut⟩ := hcut; obtain ⟨u15, hcut⟩ := hcut; obtain ⟨u16, hcut⟩ := hcut; obtain ⟨u17, hcut⟩ := hcut; obtain ⟨u18, hcut⟩ := hcut; obtain ⟨u19, hcut⟩ := hcut; obtain ⟨u20, hcut⟩ := hcut; obtain ⟨u21, hcut⟩ := hcut; obtain ⟨u22, hcut⟩ := hcut; obtain ⟨u23, hcut⟩ := hcut; obtain ⟨u24, hcut⟩ := hcut; obtain ⟨u25, hcut⟩ := hcut; obtain ⟨u26, hcut⟩ := hcut; obtain ⟨u27, hcut⟩ := hcut; obtain ⟨u28, hcut⟩ := hcut; obtain ⟨u29, hcut⟩ := hcut; obtain ⟨u30, hcut⟩ := hcut; obtain ⟨u31, hcut⟩ := hcut; obtain ⟨u32, hcut⟩ := hcut; obtain ⟨u33, hcut⟩ := hcut; obtain ⟨u34, hcut⟩ := hcut; obtain ⟨u35, hcut⟩ := hcut; obtain ⟨u36, hcut⟩ := hcut; obtain ⟨u37, hcut⟩ := hcut; obtain ⟨u38, hcut⟩ := hcut; obtain ⟨u39, hcut⟩ := hcut; obtain ⟨u40, hcut⟩ := hcut; obtain ⟨u41, hcut⟩ := hcut; obtain ⟨u42, hcut⟩ := hcut; obtain ⟨u43, hcut⟩ := hcut; obtain ⟨u44, hcut⟩ := hcut; obtain ⟨u45, hcut⟩ := hcut; obtain ⟨u46, hcut⟩ := hcut; obtain ⟨u47, hcut⟩ := hcut; obtain ⟨u48, hcut⟩ := hcut; obtain ⟨u49, hcut⟩ := hcut; obtain ⟨u50, hcut⟩ := hcut; obtain ⟨u51, hcut⟩ := hcut; obtain ⟨u52, hcut⟩ := hcut; obtain ⟨u53, hcut⟩ := hcut; obtain ⟨u54, hcut⟩ := hcut; obtain ⟨u55, hcut⟩ := hcut; obtain ⟨u56, hcut⟩ := hcut; obtain ⟨u57, hcut⟩ := hcut; obtain ⟨u58, hcut⟩ := hcut; obtain ⟨u59, hcut⟩ := hcut; obtain ⟨u60, hcut⟩ := hcut; obtain ⟨u61, hcut⟩ := hcut; obtain ⟨u62, hcut⟩ := hcut; obtain ⟨u63, hcut⟩ := hcut; obtain ⟨u64, hcut⟩ := hcut; obtain ⟨u65, hcut⟩ := hcut; obtain ⟨u66, hcut⟩ := hcut; obtain ⟨u67, hcut⟩ := hcut; obtain ⟨u68, hcut⟩ := hcut; obtain ⟨u69, hcut⟩ := hcut; obtain ⟨u70, hcut⟩ := hcut; obtain ⟨u71, hcut⟩ := hcut; obtain ⟨u72, hcut⟩ := hcut; obtain ⟨u73, hcut⟩ := hcut; obtain ⟨u74, hcut⟩ := hcut; obtain ⟨u75, hcut⟩ := hcut; obtain ⟨u76, hcut⟩ := hcut; obtain ⟨u77, hcut⟩ := hcut; obtain ⟨u78, hcut⟩ := hcut; obtain ⟨u79, hcut⟩ := hcut; obtain ⟨u80, hcut⟩ := hcut; obtain ⟨u81, hcut⟩ := hcut; obtain ⟨u82, hcut⟩ := hcut; obtain ⟨u83, hcut⟩ := hcut; obtain ⟨u84, hcut⟩ := hcut; obtain ⟨u85, hcut⟩ := hcut; obtain ⟨u86, hcut⟩ := hcut; obtain ⟨u87, hcut⟩ := hcut; obtain ⟨u88, hcut⟩ := hcut; obtain ⟨u89, hcut⟩ := hcut; obtain ⟨u90, hcut⟩ := hcut; obtain ⟨u91, hcut⟩ := hcut; obtain ⟨v0, hcut⟩ := hcut; obtain ⟨v1, hcut⟩ := hcut; obtain ⟨v6, hcut⟩ := hcut; obtain ⟨hcut, hac⟩ := hcut; subst hac)
  case' first => intro _ _ _ _
  case first =>
    cases b6
    · go_wp2_with (fail)
      go_meet
      exact ⟨by simp_all, Below.refl _ _⟩
    · go_wp2_with (fail)
      refine (SK.out w1 HBB.out).mono ?_
      rintro e w2 ⟨rfl, hb2⟩
      have HB2 := Lib.hid hb2
      have HBW2 := Lib.hid (HBB.out.trans (hb2.mono HBB.out.size))
      have HY1 := Lib.hid (blk_below HX1.out hb2)
      have HY2 := Lib.hid (blk_below HX2.out hb2)
      clear hb2
      have e0 : w2.cell? ⟨w.heap.size, 0, none⟩ = some (.int .i64 r.kind) := cell_blk HY1.out 0 rfl
      have e1 : w2.cell? ⟨w.heap.size, 1, none⟩ = some (.int .i64 r.shard) := cell_blk HY1.out 1 rfl
      have e2 : w2.cell? ⟨w.heap.size, 2, none⟩ = some (.int .i64 r.epoch) := cell_blk HY1.out 2 rfl
      have e3 : w2.cell? ⟨w.heap.size, 3, none⟩ = some (.int .i64 r.peer) := cell_blk HY1.out 3 rfl
      have e4 : w2.cell? ⟨w.heap.size, 4, none⟩ = some (.int .i64 r.client) := cell_blk HY1.out 4 rfl
      have e5 : w2.cell? ⟨w.heap.size, 5, none⟩ = some (.int .i64 r.seq) := cell_blk HY1.out 5 rfl
      have e6 : w2.cell? ⟨w.heap.size, 6, none⟩ = some (.int .i64 r.op.kind) := cell_blk HY1.out 6 rfl
      have e7 : w2.cell? ⟨w.heap.size, 7, none⟩ = some (.slice K.1 n1 K.2.2) := cell_blk HY1.out 7 rfl
      have e8 : w2.cell? ⟨w.heap.size, 8, none⟩ = some (.slice V.1 n2 V.2.2) := cell_blk HY1.out 8 rfl
      have e9 : w2.cell? ⟨w.heap.size, 9, none⟩ = some (.int .i64 r.op.rev) := cell_blk HY1.out 9 rfl
      have e10 : w2.cell? ⟨w.heap.size, 10, none⟩ = some (.slice C.1 n3 C.2.2) := cell_blk HY1.out 10 rfl
      have d0 : w2.cell? ⟨w.heap.size + 1, 0, none⟩ = some (.int .i64 q.kind) := cell_blk HY2.out 0 rfl
      have d1 : w2.cell? ⟨w.heap.size + 1, 1, none⟩ = some (.int .i64 q.shard) := cell_blk HY2.out 1 rfl
      have d2 : w2.cell? ⟨w.heap.size + 1, 2, none⟩ = some (.int .i64 q.epoch) := cell_blk HY2.out 2 rfl
      have d3 : w2.cell? ⟨w.heap.size + 1, 3, none⟩ = some (.int .i64 q.peer) := cell_blk HY2.out 3 rfl
      have d4 : w2.cell? ⟨w.heap.size + 1, 4, none⟩ = some (.int .i64 q.client) := cell_blk HY2.out 4 rfl
      have d5 : w2.cell? ⟨w.heap.size + 1, 5, none⟩ = some (.int .i64 q.seq) := cell_blk HY2.out 5 rfl
      have d6 : w2.cell? ⟨w.heap.size + 1, 6, none⟩ = some (.int .i64 q.op.kind) := cell_blk HY2.out 6 rfl
      have d7 : w2.cell? ⟨w.heap.size + 1, 7, none⟩ = some (.slice K'.1 m1 K'.2.2) := cell_blk HY2.out 7 rfl
      have d8 : w2.cell? ⟨w.heap.size + 1, 8, none⟩ = some (.slice V'.1 m2 V'.2.2) := cell_blk HY2.out 8 rfl
      have d9 : w2.cell? ⟨w.heap.size + 1, 9, none⟩ = some (.int .i64 q.op.rev) := cell_blk HY2.out 9 rfl
      have d10 : w2.cell? ⟨w.heap.size + 1, 10, none⟩ = some (.slice C'.1 m3 C'.2.2) := cell_blk HY2.out 10 rfl
      cases b7
      · go_wp2_with (fail)
        all_goals go_meet
        all_goals exact ⟨by have := HOB.out; simp_all, HB2.out⟩
      · go_wp2_with (fail)
        refine (SV.out w2 HBW2.out).mono ?_
        rintro e w3 ⟨rfl, hb3⟩
        have HB3 := Lib.hid (HB2.out.trans (hb3.mono HB2.out.size))
        have HZ1 := Lib.hid (blk_below HY1.out hb3)
        have HZ2 := Lib.hid (blk_below HY2.out hb3)
        clear hb3
        have e0 : w3.cell? ⟨w.heap.size, 0, none⟩ = some (.int .i64 r.kind) := cell_blk HZ1.out 0 rfl
        have e1 : w3.cell? ⟨w.heap.size, 1, none⟩ = some (.int .i64 r.shard) := cell_blk HZ1.out 1 rfl
        have e2 : w3.cell? ⟨w.heap.size, 2, none⟩ = some (.int .i64 r.epoch) := cell_blk HZ1.out 2 rfl
        have e3 : w3.cell? ⟨w.heap.size, 3, none⟩ = some (.int .i64 r.peer) := cell_blk HZ1.out 3 rfl
        have e4 : w3.cell? ⟨w.heap.size, 4, none⟩ = some (.int .i64 r.client) := cell_blk HZ1.out 4 rfl
        have e5 : w3.cell? ⟨w.heap.size, 5, none⟩ = some (.int .i64 r.seq) := cell_blk HZ1.out 5 rfl
        have e6 : w3.cell? ⟨w.heap.size, 6, none⟩ = some (.int .i64 r.op.kind) := cell_blk HZ1.out 6 rfl
        have e7 : w3.cell? ⟨w.heap.size, 7, none⟩ = some (.slice K.1 n1 K.2.2) := cell_blk HZ1.out 7 rfl
        have e8 : w3.cell? ⟨w.heap.size, 8, none⟩ = some (.slice V.1 n2 V.2.2) := cell_blk HZ1.out 8 rfl
        have e9 : w3.cell? ⟨w.heap.size, 9, none⟩ = some (.int .i64 r.op.rev) := cell_blk HZ1.out 9 rfl
        have e10 : w3.cell? ⟨w.heap.size, 10, none⟩ = some (.slice C.1 n3 C.2.2) := cell_blk HZ1.out 10 rfl
        have d0 : w3.cell? ⟨w.heap.size + 1, 0, none⟩ = some (.int .i64 q.kind) := cell_blk HZ2.out 0 rfl
        have d1 : w3.cell? ⟨w.heap.size + 1, 1, none⟩ = some (.int .i64 q.shard) := cell_blk HZ2.out 1 rfl
        have d2 : w3.cell? ⟨w.heap.size + 1, 2, none⟩ = some (.int .i64 q.epoch) := cell_blk HZ2.out 2 rfl
        have d3 : w3.cell? ⟨w.heap.size + 1, 3, none⟩ = some (.int .i64 q.peer) := cell_blk HZ2.out 3 rfl
        have d4 : w3.cell? ⟨w.heap.size + 1, 4, none⟩ = some (.int .i64 q.client) := cell_blk HZ2.out 4 rfl
        have d5 : w3.cell? ⟨w.heap.size + 1, 5, none⟩ = some (.int .i64 q.seq) := cell_blk HZ2.out 5 rfl
        have d6 : w3.cell? ⟨w.heap.size + 1, 6, none⟩ = some (.int .i64 q.op.kind) := cell_blk HZ2.out 6 rfl
        have d7 : w3.cell? ⟨w.heap.size + 1, 7, none⟩ = some (.slice K'.1 m1 K'.2.2) := cell_blk HZ2.out 7 rfl
        have d8 : w3.cell? ⟨w.heap.size + 1, 8, none⟩ = some (.slice V'.1 m2 V'.2.2) := cell_blk HZ2.out 8 rfl
        have d9 : w3.cell? ⟨w.heap.size + 1, 9, none⟩ = some (.int .i64 q.op.rev) := cell_blk HZ2.out 9 rfl
        have d10 : w3.cell? ⟨w.heap.size + 1, 10, none⟩ = some (.slice C'.1 m3 C'.2.2) := cell_blk HZ2.out 10 rfl
        go_wp2_with (fail)
        all_goals go_meet
        all_goals exact ⟨by have := HOB.out; simp_all, HB3.out⟩
  case rest =>
  obtain ⟨rfl, hbx⟩ := hcut
  have HB4 := Lib.hid (HBB.out.trans (hbx.mono HBB.out.size))
  have HZ1 := Lib.hid (blk_below HX1.out hbx)
  have HZ2 := Lib.hid (blk_below HX2.out hbx)
  have HHB := Lib.hid hbx
  clear hbx h6 h9 hob HOB
  have e0 : wx.cell? ⟨w.heap.size, 0, none⟩ = some (.int .i64 r.kind) := cell_blk HZ1.out 0 rfl
  have e1 : wx.cell? ⟨w.heap.size, 1, none⟩ = some (.int .i64 r.shard) := cell_blk HZ1.out 1 rfl
  have e2 : wx.cell? ⟨w.heap.size, 2, none⟩ = some (.int .i64 r.epoch) := cell_blk HZ1.out 2 rfl
  have e3 : wx.cell? ⟨w.heap.size, 3, none⟩ = some (.int .i64 r.peer) := cell_blk HZ1.out 3 rfl
  have e4 : wx.cell? ⟨w.heap.size, 4, none⟩ = some (.int .i64 r.client) := cell_blk HZ1.out 4 rfl
  have e5 : wx.cell? ⟨w.heap.size, 5, none⟩ = some (.int .i64 r.seq) := cell_blk HZ1.out 5 rfl
  have e6 : wx.cell? ⟨w.heap.size, 6, none⟩ = some (.int .i64 r.op.kind) := cell_blk HZ1.out 6 rfl
  have e7 : wx.cell? ⟨w.heap.size, 7, none⟩ = some (.slice K.1 n1 K.2.2) := cell_blk HZ1.out 7 rfl
  have e8 : wx.cell? ⟨w.heap.size, 8, none⟩ = some (.slice V.1 n2 V.2.2) := cell_blk HZ1.out 8 rfl
  have e9 : wx.cell? ⟨w.heap.size, 9, none⟩ = some (.int .i64 r.op.rev) := cell_blk HZ1.out 9 rfl
  have e10 : wx.cell? ⟨w.heap.size, 10, none⟩ = some (.slice C.1 n3 C.2.2) := cell_blk HZ1.out 10 rfl
  have d0 : wx.cell? ⟨w.heap.size + 1, 0, none⟩ = some (.int .i64 q.kind) := cell_blk HZ2.out 0 rfl
  have d1 : wx.cell? ⟨w.heap.size + 1, 1, none⟩ = some (.int .i64 q.shard) := cell_blk HZ2.out 1 rfl
  have d2 : wx.cell? ⟨w.heap.size + 1, 2, none⟩ = some (.int .i64 q.epoch) := cell_blk HZ2.out 2 rfl
  have d3 : wx.cell? ⟨w.heap.size + 1, 3, none⟩ = some (.int .i64 q.peer) := cell_blk HZ2.out 3 rfl
  have d4 : wx.cell? ⟨w.heap.size + 1, 4, none⟩ = some (.int .i64 q.client) := cell_blk HZ2.out 4 rfl
  have d5 : wx.cell? ⟨w.heap.size + 1, 5, none⟩ = some (.int .i64 q.seq) := cell_blk HZ2.out 5 rfl
  have d6 : wx.cell? ⟨w.heap.size + 1, 6, none⟩ = some (.int .i64 q.op.kind) := cell_blk HZ2.out 6 rfl
  have d7 : wx.cell? ⟨w.heap.size + 1, 7, none⟩ = some (.slice K'.1 m1 K'.2.2) := cell_blk HZ2.out 7 rfl
  have d8 : wx.cell? ⟨w.heap.size + 1, 8, none⟩ = some (.slice V'.1 m2 V'.2.2) := cell_blk HZ2.out 8 rfl
  have d9 : wx.cell? ⟨w.heap.size + 1, 9, none⟩ = some (.int .i64 q.op.rev) := cell_blk HZ2.out 9 rfl
  have d10 : wx.cell? ⟨w.heap.size + 1, 10, none⟩ = some (.slice C'.1 m3 C'.2.2) := cell_blk HZ2.out 10 rfl
  cases nb
  · go_wp2_with (fail)
    go_ret
    exact ⟨by rw [HSS.out]; rfl, HB4.out⟩
  · cases ob
    · go_wp2_with (fail)
      go_ret
      exact ⟨by rw [HSS.out]; rfl, HB4.out⟩
    · go_wp2_with (fail)
      refine (SC.out wx HB4.out).mono ?_
      rintro e w5 ⟨rfl, hb5⟩
      have HB5 := Lib.hid (HB4.out.trans (hb5.mono HB4.out.size))
      clear hb5
      go_wp2_with (fail)
      all_goals
        go_ret
        exact ⟨by rw [HSS.out]; simp_all, HB5.out⟩
end Go.Proofs.Ytjmmdpnphafdfaa