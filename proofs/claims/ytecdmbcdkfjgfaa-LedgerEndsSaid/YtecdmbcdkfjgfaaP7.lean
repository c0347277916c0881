/- The protocol of ledgers, in plain Lean: what a round comes to. -/
import Derived.Test.YtecdmbcdkfjgfaaP6
namespace Go.Proofs.Ytecdmbcdkfjgfaa
set_option linter.unusedVariables false
set_option linter.unusedSimpArgs false

/-- An invariant of a round of W. -/
structure RoundI (W : Wd) (I : Nat → Wd → List Ml → Prop) : Prop where
  start : I 0 (nagsW W W.row.length) (nagsR W.row W.row.length)
  step : ∀ j V m p, I j V (m :: p) → j < 64 ∧ hearW V m false = (hearS V m false, true) ∧ ∃ rs, (hearS V m false).sent = V.sent ++ rs ∧ I (j + 1) (hearS V m false) (p ++ rs)
  bound : ∀ j V p, I j V p → V.sent.length ≤ W.sent.length + 40
section
variable {W : Wd} {E H : Int} {O : Int → Int → Int → Prop}
/-- Any round ends with all but the holder at rest. -/
theorem any_round (g : Good W E H O) : ∃ I, RoundI W I ∧ ∀ j V, I j V [] → V.row.length = W.row.length ∧ V.sent.length ≤ W.sent.length + 40 ∧ ∃ E' H', Good V E' H' O ∧ Quiet V H' := by
  refine ⟨RI W.row.length W.sent.length O, ⟨ri_start g, fun j V m p h => ?_, fun j V p h => ?_⟩, fun j V h => ri_end h⟩
  · have hj := h.2.2.1
    obtain ⟨a, b⟩ := ri_step h
    exact ⟨by omega, a, b⟩
  · have := h.2.2.2.1; omega
/-- A round of a world at rest ends what was offered. -/
theorem quiet_round (g : Good W E H O) (q : Quiet W H) : ∃ I, RoundI W I ∧ ∀ j V, I j V [] → V.row.length = W.row.length ∧ ∃ H', Good V E H' O ∧ Quiet V H' ∧ (at0 V.row H').ph = 1 ∧
    ((at0 W.row H).ph = 2 → H' = (at0 W.row H).pe ∧ V.sent.length ≤ W.sent.length + 5) ∧ ((at0 W.row H).ph = 1 → H' = H ∧ V.sent.length ≤ W.sent.length) := by
  have h0 := g.1.h0
  have hn := g.1.hn
  have n8 := g.1.n8
  have hE := g.1.hE
  have hnag := nagsR_quiet q W.row.length (Nat.le_refl _)
  have rs := ri_start g
  rcases q.2 with h1 | h2
  · rw [if_neg (by omega)] at hnag
    refine ⟨fun j V p => p = [] ∧ V.row = W.row ∧ V.sent = W.sent, ⟨?_, ?_, ?_⟩, ?_⟩
    · rw [nagsW_eq, hnag]; simp
    · rintro j V m p ⟨h, _⟩; cases h
    · rintro j V p ⟨_, _, h⟩; rw [h]; omega
    · rintro j ⟨row, sent⟩ ⟨_, h, h'⟩
      simp only at h h'
      subst h; subst h'
      exact ⟨rfl, H, g, q, h1, fun h => by omega, fun _ => ⟨rfl, Nat.le_refl _⟩⟩
  · rw [if_pos (by omega), hE] at hnag
    have v := g.1.val H h0 hn
    have hrow : at0 W.row H = ⟨2, E, (at0 W.row H).pe⟩ := by
      rw [← hE, ← h2]
    have ho : O E H (at0 W.row H).pe := by
      rcases g.1.tok with t | ⟨_, t⟩ | ⟨t, _⟩
      · omega
      · exact t
      · omega
    generalize (at0 W.row H).pe = p at *
    have of := g.1.off _ _ _ ho
    have hw := q.1 p (by omega) (by omega) (by omega)
    have he : (at0 W.row p).ep < E := by
      have h1 := g.1.epE p (by omega) (by omega)
      rcases hw with h | h
      · have v := g.1.val p (by omega) (by omega)
        unfold Vl at v; omega
      · by_cases hp : (at0 W.row p).ep = E
        · have := g.1.i6 p H (by omega) (by omega) h (by rw [hp]; exact ho)
          omega
        · omega
    refine ⟨fun j V ps => RI W.row.length W.sent.length O j V ps ∧ Stg W E H p j V ps ∧ V.sent.length ≤ W.sent.length + 1 + j, ⟨?_, ?_, ?_⟩, ?_⟩
    · refine ⟨rs, Or.inl ⟨rfl, hnag, ?_, ?_⟩, ?_⟩
      · rw [nagsW_eq]; exact hrow
      · rw [nagsW_eq]
      · rw [nagsW_eq, hnag]; simp
    · rintro j V m ps ⟨hr, hs, hl⟩
      have hj := hr.2.2.1
      have hVn := hr.1
      obtain ⟨a, rs1, b1, b2⟩ := ri_step hr
      obtain ⟨rs2, c1, c2⟩ := stg_step hs h0 (by omega) (by omega) (by omega) (by omega) hw he
      have hrs : rs1 = rs2 := List.append_cancel_left (b1.symm.trans c1)
      subst hrs
      refine ⟨by omega, a, rs1, b1, b2, c2, ?_⟩
      obtain ⟨E1, H1, g1, _⟩ := hr.2.2.2.2
      obtain ⟨_, _, _, _, rs3, _, d1, _, d2, _⟩ := hear_good g1 (hr.2.1 m (List.mem_cons_self)) false
      rw [d1, List.length_append]; omega
    · rintro j V ps ⟨hr, _, _⟩
      have := hr.2.2.2.1; omega
    · rintro j V ⟨hr, hs, hl⟩
      obtain ⟨hVn, _, E', H', g', q'⟩ := ri_end hr
      rcases hs with ⟨_, e, _⟩ | ⟨_, e, _⟩ | ⟨_, e, _⟩ | ⟨_, e, _⟩ | ⟨rfl, _, a, b⟩
      · cases e
      · cases e
      · cases e
      · cases e
      · have hp : p = H' := g'.1.i12 p (by omega) (by omega) (Or.inl (by rw [b]))
        subst hp
        have hE' : E' = E := by rw [← g'.1.hE, b]
        subst hE'
        exact ⟨hVn, p, g', q', by rw [b], fun _ => ⟨rfl, by omega⟩, fun h => by omega⟩
/-- What one hand's act comes to. -/
theorem act_hand (g : Good W E H O) (q : Quiet W H) (h1 : (at0 W.row H).ph = 1) {t : Int} (t0 : 0 ≤ t) (tn : t < W.row.length) : ∃ W1 E1 O1, actW W 1 H t 0 = (W1, true) ∧ W1.row.length = W.row.length ∧ W1.sent = W.sent ∧ Good W1 E1 H O1 ∧ Quiet W1 H ∧
    ((t ≠ H ∧ E ≤ 1073741822) → E1 = E + 1 ∧ (at0 W1.row H).ph = 2 ∧ (at0 W1.row H).pe = t) ∧ (¬ (t ≠ H ∧ E ≤ 1073741822) → E1 = E ∧ (at0 W1.row H).ph = 1) := by
  have h0 := g.1.h0
  have hn := g.1.hn
  have n8 := g.1.n8
  have hE := g.1.hE
  have v := g.1.val H h0 hn
  have eH : H % (W.row.length : Int) = H := Int.emod_eq_of_lt h0 hn
  have et : t % (W.row.length : Int) = t := Int.emod_eq_of_lt t0 tn
  by_cases c : t ≠ H ∧ E ≤ 1073741822
  · have st := step_offer n8 h0 hn v t0 tn h1 c.1 (by rw [hE]; exact c.2)
    rw [hE] at st
    refine ⟨put W H ⟨2, E + 1, t⟩, E + 1, offO O E H t, ?_, put_len _ _ _, rfl, g.put_offer h1 c.1 t0 tn c.2, ⟨fun i i0 iN hi => ?_, Or.inr ?_⟩, fun _ => ⟨rfl, ?_, ?_⟩, fun h => (h c).elim⟩
    · unfold actW
      simp only
      rw [if_pos (by trivial), eH, et, takeW_of st]
      have c1 := c.1
      have c2 := c.2
      simp [h1, hE, c1, c2]
    · rw [at0_put h0 hn, upd_ne _ _ hi]
      exact q.1 i i0 (by rw [put_len] at iN; exact iN) hi
    · rw [at0_put h0 hn, upd_same]
    · rw [at0_put h0 hn, upd_same]
    · rw [at0_put h0 hn, upd_same]
  · refine ⟨W, E, O, ?_, rfl, rfl, g, q, fun h => (c h).elim, fun _ => ⟨rfl, h1⟩⟩
    have no := step_offer_no (s := H) (rp := t) (l := at0 W.row H) (fun h => c ⟨h.2.1, by rw [← hE]; exact h.2.2⟩)
    unfold actW
    simp only
    rw [if_pos (by trivial), eH, et, takeW_no no]
    simp only [Prod.mk.injEq, true_and, beq_iff_eq]
    symm
    rw [Bool.eq_false_iff]
    intro hc
    simp only [Bool.and_eq_true, beq_iff_eq, bne_iff_ne, decide_eq_true_eq] at hc
    exact c ⟨hc.1.2, by rw [← hE]; exact hc.2⟩
end
end Go.Proofs.Ytecdmbcdkfjgfaa
