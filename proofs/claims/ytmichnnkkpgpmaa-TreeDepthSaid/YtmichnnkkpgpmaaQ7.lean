/- alike, of equal rows; what splitting does. -/
import Derived.Test.YtmichnnkkpgpmaaQ6
import Derived.Test.YtmichnnkkpgpmaaQ5
namespace Go.Proofs.Ytmichnnkkpgpmaa
set_option linter.unusedVariables false
set_option linter.unusedSimpArgs false
open Go.RowKit Go.Deep Go.Proofs.YtmichnnkkpgpmaaW.PrintLast

set_option maxRecDepth 100000 in
set_option maxHeartbeats 1000000 in
theorem alike_any {w : World} {N N' : Nat} {A B : Option Addr} {c c' : Nat} {xs : List Int} (h : GRow encI 3 1 w N A c xs) (h' : GRow encI 3 1 w N' B c' xs) (hl : xs.length ≤ 100000000000000) :
    Calls Try.prog 32 #[.slice A xs.length c, .slice B xs.length c'] w fun e w' => e = .returned (.bool true) ∧ Below w.heap.size w w' := by
  have H := Lib.hid h
  have H' := Lib.hid h'
  clear h h'
  go_enter Try.func32, Try.ntmps32
  go_wp2_with (fail)
  refine wp_loop_ghost_k (fun (m : Nat) (ac : Act) (wr : World) => ∃ u2 u3 u4 u6 u7 u8 u9 u10 u11 u12 u13 u14 u15 u16 u17 u18 u19 u20 u21 u22 u23 u24 u25 v5 : Value, (∃ i : Nat, m + i = xs.length ∧ v5 = .int .i64 i ∧ Below w.heap.size w wr ∧ wr.heap = w.heap) ∧ ac = ({ tmps := #[.slice A xs.length c, .slice B xs.length c', u2, u3, u4, v5, u6, u7, u8, u9, u10, u11, u12, u13, u14, u15, u16, u17, u18, u19, u20, u21, u22, u23, u24, u25], defers := [] } : Act)) (xs.length) ?atStart ?round
  case' atStart => ((repeat apply Exists.intro); refine ⟨?_, rfl⟩)
  case' round => (intro m ac wr hcut; obtain ⟨u2, hcut⟩ := hcut; obtain ⟨u3, hcut⟩ := hcut; obtain ⟨u4, hcut⟩ := hcut; obtain ⟨u6, hcut⟩ := hcut; obtain ⟨u7, hcut⟩ := hcut; obtain ⟨u8, hcut⟩ := hcut; obtain ⟨u9, hcut⟩ := hcut; obtain ⟨u10, hcut⟩ := hcut; obtain ⟨u11, hcut⟩ := hcut; obtain ⟨u12, hcut⟩ := hcut; obtain ⟨u13, hcut⟩ := hcut; obtain ⟨u14, hcut⟩ := hcut; obtain ⟨u15, hcut⟩ := hcut; obtain ⟨u16, hcut⟩ := hcut; obtain ⟨u17, hcut⟩ := hcut; obtain ⟨u18, hcut⟩ := hcut; obtain ⟨u19, hcut⟩ := hcut; obtain ⟨u20, hcut⟩ := hcut; obtain ⟨u21, hcut⟩ := hcut; obtain ⟨u22, hcut⟩ := hcut; obtain ⟨u23, hcut⟩ := hcut; obtain ⟨u24, hcut⟩ := hcut; obtain ⟨u25, hcut⟩ := hcut; obtain ⟨v5, hcut⟩ := hcut; obtain ⟨hcut, hac⟩ := hcut; subst hac; intro _ _ _ _)
  case atStart => exact ⟨0, rfl, rfl, Below.refl _ _, rfl⟩
  case round =>
    obtain ⟨i, hi, rfl, hB, hh⟩ := hcut
    have HI := Lib.hid hi
    have HBB := Lib.hid hB
    have HH := Lib.hid hh
    have hile : i ≤ xs.length := by omega
    clear hi hB hh
    by_cases hlt : i < xs.length
    · obtain ⟨x, hx⟩ : ∃ x, xs[i]? = some x := ⟨_, List.getElem?_eq_getElem hlt⟩
      obtain ⟨g, rfl, x0'⟩ := H.out.cell hx (j := 0) rfl
      obtain ⟨g', rfl, y0'⟩ := H'.out.cell hx (j := 0) rfl
      have x0 : wr.cell? ⟨g, i, none⟩ = some (.int .i64 x) := cell_same (by simpa using x0') (by rw [HH.out])
      have y0 : wr.cell? ⟨g', i, none⟩ = some (.int .i64 x) := cell_same (by simpa using y0') (by rw [HH.out])
      have z1 : decide (i < xs.length) = true := by simp; omega
      clear x0' y0' hx
      go_wp2_with (fail)
      refine start_ (n := 9) (S := fun w' => w'.cell? ⟨g, i, none⟩ = some (.int .i64 x) ∧ w'.cell? ⟨g', i, none⟩ = some (.int .i64 x)) (ds := []) #[false, false, false, false, false, false, false, false, false] (by kernel_rfl) rfl rfl ⟨x0, y0⟩ (fun hHeld => ?_)
      (refine take_ (i := 0) (N := some 17) (v := ?v_2) (a' := ?a_2) #[true, false, false, false, false, false, false, false, false] rfl rfl (by kernel_rfl) (fun _ _ _ h => h) (Or.inl ⟨by rfl, ?hy_2⟩) hHeld ?ha_2 ?hh_2; (case hy_2 => (rintro w' ⟨s0_, s1_⟩; go_simp; with_reducible rfl)); (case ha_2 => (simp (disch := omega) only [Act.put, List.setIfInBounds_toArray, List.set_cons_zero, List.set_cons_succ, wrap_in]; rfl)))
      (refine take_ (i := 1) (N := some 18) (v := ?v_3) (a' := ?a_3) #[true, true, false, false, false, false, false, false, false] rfl rfl (by kernel_rfl) (fun _ _ _ h => h) (Or.inl ⟨by rfl, ?hy_3⟩) hHeld ?ha_3 ?hh_3; (case hy_3 => (rintro w' ⟨s0_, s1_⟩; go_simp; with_reducible rfl)); (case ha_3 => (simp (disch := omega) only [Act.put, List.setIfInBounds_toArray, List.set_cons_zero, List.set_cons_succ, wrap_in]; rfl)))
      (refine take_ (i := 2) (N := some 19) (v := ?v_4) (a' := ?a_4) #[true, true, true, false, false, false, false, false, false] rfl rfl (by kernel_rfl) (fun _ _ _ h => h) (Or.inl ⟨by rfl, ?hy_4⟩) hHeld ?ha_4 ?hh_4; (case hy_4 => (rintro w' ⟨s0_, s1_⟩; go_simp; with_reducible rfl)); (case ha_4 => (simp (disch := omega) only [Act.put, List.setIfInBounds_toArray, List.set_cons_zero, List.set_cons_succ, wrap_in]; rfl)))
      (refine take_ (i := 3) (N := some 20) (v := ?v_5) (a' := ?a_5) #[true, true, true, true, false, false, false, false, false] rfl rfl (by kernel_rfl) (fun _ _ _ h => h) (Or.inl ⟨by rfl, ?hy_5⟩) hHeld ?ha_5 ?hh_5; (case hy_5 => (rintro w' ⟨s0_, s1_⟩; go_simp; with_reducible rfl)); (case ha_5 => (simp (disch := omega) only [Act.put, List.setIfInBounds_toArray, List.set_cons_zero, List.set_cons_succ, wrap_in]; rfl)))
      (refine take_ (i := 4) (N := some 21) (v := ?v_6) (a' := ?a_6) #[true, true, true, true, true, false, false, false, false] rfl rfl (by kernel_rfl) (fun _ _ _ h => h) (Or.inl ⟨by rfl, ?hy_6⟩) hHeld ?ha_6 ?hh_6; (case hy_6 => (rintro w' ⟨s0_, s1_⟩; go_simp; with_reducible rfl)); (case ha_6 => (simp (disch := omega) only [Act.put, List.setIfInBounds_toArray, List.set_cons_zero, List.set_cons_succ, wrap_in]; rfl)))
      (refine take_ (i := 5) (N := some 22) (v := ?v_7) (a' := ?a_7) #[true, true, true, true, true, true, false, false, false] rfl rfl (by kernel_rfl) (fun _ _ _ h => h) (Or.inl ⟨by rfl, ?hy_7⟩) hHeld ?ha_7 ?hh_7; (case hy_7 => (rintro w' ⟨s0_, s1_⟩; go_simp; with_reducible rfl)); (case ha_7 => (simp (disch := omega) only [Act.put, List.setIfInBounds_toArray, List.set_cons_zero, List.set_cons_succ, wrap_in]; rfl)))
      (refine take_ (i := 6) (N := some 23) (v := ?v_8) (a' := ?a_8) #[true, true, true, true, true, true, true, false, false] rfl rfl (by kernel_rfl) (fun _ _ _ h => h) (Or.inl ⟨by rfl, ?hy_8⟩) hHeld ?ha_8 ?hh_8; (case hy_8 => (rintro w' ⟨s0_, s1_⟩; go_simp; with_reducible rfl)); (case ha_8 => (simp (disch := omega) only [Act.put, List.setIfInBounds_toArray, List.set_cons_zero, List.set_cons_succ, wrap_in]; rfl)))
      (refine take_ (i := 7) (N := some 24) (v := ?v_9) (a' := ?a_9) #[true, true, true, true, true, true, true, true, false] rfl rfl (by kernel_rfl) (fun _ _ _ h => h) (Or.inl ⟨by rfl, ?hy_9⟩) hHeld ?ha_9 ?hh_9; (case hy_9 => (rintro w' ⟨s0_, s1_⟩; go_simp; with_reducible rfl)); (case ha_9 => (simp (disch := omega) only [Act.put, List.setIfInBounds_toArray, List.set_cons_zero, List.set_cons_succ, wrap_in]; rfl)))
      (refine take_ (i := 8) (N := some 25) (v := ?v_10) (a' := ?a_10) #[true, true, true, true, true, true, true, true, true] rfl rfl (by kernel_rfl) (fun _ _ _ h => h) (Or.inl ⟨by rfl, ?hy_10⟩) hHeld ?ha_10 ?hh_10; (case hy_10 => (rintro w' ⟨s0_, s1_⟩; go_simp; with_reducible rfl)); (case ha_10 => (simp (disch := omega) only [Act.put, List.setIfInBounds_toArray, List.set_cons_zero, List.set_cons_succ, wrap_in]; rfl)))
      refine done_ (by kernel_rfl) ?_
      go_wp2_with (fail)
      go_roundg (m - 1)
      case measure => have := HI.out; omega
      case rel => exact ⟨i + 1, by have := HI.out; omega, by go_num, HBB.out.drew, HH.out⟩
    · have z1 : decide (i < xs.length) = false := by simp; omega
      go_wp2_with (fail)
      go_ret
      exact ⟨rfl, HBB.out⟩
theorem meets_split {t : TI} (h : T.Rises ltZ t.toList) (key : Int) : T.meets ltZ (T.splitL ltZ key t).toList (T.splitR ltZ key t).toList = true := by
  rw [T.toList_splitL swoZ key t h, T.toList_splitR swoZ key t h]
  unfold T.meets
  split
  · rename_i x y hx hy
    have h1 := (T.mem_und.1 (List.mem_of_getLast? hx)).2
    have h2 := from_ge hy
    simp [ltZ] at h1 ⊢; omega
  · rfl
theorem und_below {L : List (Int × Int)} {key : Int} {e : Int × Int} (h : e ∈ T.und ltZ key L) : e.1 < key := by
  have := (T.mem_und.1 h).2
  simpa [ltZ] using this
theorem from_above {L : List (Int × Int)} {key : Int} {e : Int × Int} (h : e ∈ T.from_ ltZ key L) : key ≤ e.1 := by
  have := (List.mem_filter.1 h).2
  simpa [ltZ] using this
/-- What was put and taken away again. -/
theorem put_del {t : TI} (h : T.Rises ltZ t.toList) (key v : Int) : (T.del ltZ key (T.put ltZ key v t)).1.toList = T.sans ltZ key t.toList ∧ (T.del ltZ key (T.put ltZ key v t)).2 = true := by
  obtain ⟨h1, h2⟩ := T.del_law swoZ key _ (T.rises_put swoZ (k := key) (v := v) h)
  rw [T.toList_put swoZ key v t h] at h1 h2
  refine ⟨?_, by rw [h2]; simp [eqvZ]⟩
  rw [h1, T.sans_append, T.sans_cons]
  have e1 : T.sans ltZ key (T.und ltZ key t.toList) = T.und ltZ key t.toList := T.filter_all fun e he => by
    have := und_below he
    rw [eqvZ]; simp; omega
  have e2 : T.sans ltZ key (T.ovr ltZ key t.toList) = T.ovr ltZ key t.toList := T.filter_all fun e he => by
    have := (T.mem_ovr.1 he).2
    simp [ltZ] at this
    rw [eqvZ]; simp; omega
  rw [e1, e2]
  have e3 : ∀ L : List (Int × Int), T.Rises ltZ L → T.sans ltZ key L = T.und ltZ key L ++ T.ovr ltZ key L := by
    intro L
    induction L with
    | nil => intro _; rfl
    | cons e L ih =>
      intro hL
      have hp := List.pairwise_cons.1 hL
      rw [T.sans_cons, T.und_cons, T.ovr_cons, ih hp.2, eqvZ]
      rcases Int.lt_trichotomy e.1 key with hc | hc | hc
      · have a1 : (e.1 == key) = false := by simp; omega
        have a2 : ltZ e.1 key = true := by simp [ltZ]; omega
        have a3 : ltZ key e.1 = false := by simp [ltZ]; omega
        simp [a1, a2, a3]
      · have a1 : (e.1 == key) = true := by simp; omega
        have a2 : ltZ e.1 key = false := by simp [ltZ]; omega
        have a3 : ltZ key e.1 = false := by simp [ltZ]; omega
        simp [a1, a2, a3]
      · have a1 : (e.1 == key) = false := by simp; omega
        have a2 : ltZ e.1 key = false := by simp [ltZ]; omega
        have a3 : ltZ key e.1 = true := by simp [ltZ]; omega
        have a4 : T.und ltZ key L = [] := T.filter_none fun f hf => by
          have := hp.1 f hf
          simp [ltZ] at this ⊢; omega
        simp [a1, a2, a3, a4]
  rw [e3 _ h]
  simp [eqvZ]
/-- A sorted row about a key. -/
theorem look_full {L : List (Int × Int)} (h : T.Rises ltZ L) (key : Int) : (∀ v, T.look ltZ key L = some v → L = T.und ltZ key L ++ (key, v) :: T.ovr ltZ key L) ∧ (T.look ltZ key L = none → L = T.und ltZ key L ++ T.ovr ltZ key L) := by
  have hs := und_from L key h
  have hl := look_head h key
  have hf : T.Rises ltZ (T.from_ ltZ key L) := h.from_'
  have hovr : T.ovr ltZ key L = T.ovr ltZ key (T.from_ ltZ key L) := by
    conv => lhs; rw [hs]
    rw [T.ovr_append, show T.ovr ltZ key (T.und ltZ key L) = [] from T.filter_none fun e he => by
      have := und_below he
      simp [ltZ]; omega]
    rfl
  have hge : ∀ e ∈ T.from_ ltZ key L, key ≤ e.1 := fun e he => from_above he
  cases hfr : T.from_ ltZ key L with
  | nil =>
    rw [hfr] at hl hovr hs
    refine ⟨(fun v hv => by rw [hl] at hv; cases hv), fun _ => ?_⟩
    rw [hovr]; exact hs
  | cons e r =>
    rw [hfr] at hl hovr hs hf hge
    have hp := List.pairwise_cons.1 hf
    have hr : T.ovr ltZ key r = r := T.filter_all fun f hfm => by
      have h1 := hp.1 f hfm
      have h2 := hge e List.mem_cons_self
      simp [ltZ] at h1 ⊢; omega
    rw [T.ovr_cons, hr] at hovr
    by_cases he : e.1 = key
    · have a1 : ltZ key e.1 = false := by simp [ltZ]; omega
      rw [a1] at hovr
      simp only [List.head?_cons, if_pos he] at hl
      refine ⟨fun v hv => ?_, (fun hn => by rw [hl] at hn; cases hn)⟩
      rw [hl] at hv
      injection hv with hv
      subst hv
      have e2 : e = (key, e.2) := by rw [← he]
      rw [hovr]
      simp only [Bool.false_eq_true, if_false]
      rw [← e2]; exact hs
    · have a1 : ltZ key e.1 = true := by have := hge e List.mem_cons_self; simp [ltZ]; omega
      rw [a1] at hovr
      simp only [List.head?_cons, if_neg he] at hl
      refine ⟨(fun v hv => by rw [hl] at hv; cases hv), fun _ => ?_⟩
      rw [hovr]
      simp only [if_true]
      exact hs
theorem put_size {t : TI} (h : T.Rises ltZ t.toList) (key v : Int) : (T.put ltZ key v t).size = t.size + (if (T.look ltZ key t.toList).isSome then 0 else 1) := by
  rw [← T.length_toList, ← T.length_toList, T.toList_put swoZ key v t h]
  obtain ⟨h1, h2⟩ := look_full h key
  cases hl : T.look ltZ key t.toList with
  | none =>
    have := congrArg List.length (h2 hl)
    simp only [List.length_append] at this
    simp; omega
  | some x =>
    have := congrArg List.length (h1 x hl)
    simp only [List.length_append, List.length_cons] at this
    simp; omega
/-- The value put back. -/
theorem put_back {t d : TI} (h : T.Rises ltZ t.toList) {key v : Int} (hd : d.toList = T.sans ltZ key t.toList) (hl : T.look ltZ key t.toList = some v) : (T.put ltZ key v d).toList = t.toList := by
  have hrd : T.Rises ltZ d.toList := by rw [hd]; exact h.sans_
  rw [T.toList_put swoZ key v d hrd, hd]
  obtain ⟨h1, _⟩ := look_full h key
  have hs := h1 v hl
  have e1 : T.sans ltZ key t.toList = T.und ltZ key t.toList ++ T.ovr ltZ key t.toList := by
    conv => lhs; rw [hs]
    rw [T.sans_append, T.sans_cons, eqvZ]
    rw [show T.sans ltZ key (T.und ltZ key t.toList) = T.und ltZ key t.toList from T.filter_all fun e he => by
      have := und_below he
      rw [eqvZ]; simp; omega]
    rw [show T.sans ltZ key (T.ovr ltZ key t.toList) = T.ovr ltZ key t.toList from T.filter_all fun e he => by
      have := (T.mem_ovr.1 he).2
      simp [ltZ] at this
      rw [eqvZ]; simp; omega]
    simp
  rw [e1, T.und_append, T.ovr_append]
  rw [show T.und ltZ key (T.und ltZ key t.toList) = T.und ltZ key t.toList from T.filter_all fun e he => (T.mem_und.1 he).2]
  rw [show T.und ltZ key (T.ovr ltZ key t.toList) = [] from T.filter_none fun e he => by
    have := (T.mem_ovr.1 he).2
    simp [ltZ] at this ⊢; omega]
  rw [show T.ovr ltZ key (T.und ltZ key t.toList) = [] from T.filter_none fun e he => by
    have := und_below he
    simp [ltZ]; omega]
  rw [show T.ovr ltZ key (T.ovr ltZ key t.toList) = T.ovr ltZ key t.toList from T.filter_all fun e he => (T.mem_ovr.1 he).2]
  rw [List.append_nil, List.nil_append]
  exact hs.symm
theorem sans_none {t : TI} (h : T.Rises ltZ t.toList) {key : Int} (hl : T.look ltZ key t.toList = none) : T.sans ltZ key t.toList = t.toList := by
  refine T.filter_all fun e he => ?_
  unfold T.look at hl
  rw [Option.map_eq_none_iff, List.find?_eq_none] at hl
  have := hl e he
  simpa using this
end Go.Proofs.Ytmichnnkkpgpmaa
