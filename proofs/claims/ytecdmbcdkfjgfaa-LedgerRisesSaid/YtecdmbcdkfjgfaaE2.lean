/- LedgerRises: a step answers a sound ledger whose epoch is no less, or refuses and answers nothing; what a message calls for is taken. -/
import Derived.Test.YtecdmbcdkfjgfaaE1
namespace Go.Proofs.Ytecdmbcdkfjgfaa
open Go.RowKit

theorem step_ok (s : Int) (l : Lg) (k re rp : Int) (h : (stepF s l k re rp).2 = 0) : validB s l.ph l.ep l.pe = true ∧ validB s (stepF s l k re rp).1.ph (stepF s l k re rp).1.ep (stepF s l k re rp).1.pe = true ∧ l.ep ≤ (stepF s l k re rp).1.ep := by
  unfold stepF at h ⊢
  split at h
  · simp at h
  · split at h
    · simp at h
    · split at h
      · simp at h
      · split at h
        · rename_i h1 h2 h3 h4
          rw [if_neg h1, if_neg h2, if_neg h3, if_pos h4]
          refine ⟨by grind, h4, ?_⟩
          unfold madeL
          grind
        · simp at h
theorem step_no (s : Int) (l : Lg) (k re rp : Int) (h : ¬ (stepF s l k re rp).2 = 0) : (stepF s l k re rp).1 = ⟨0, 0, 0⟩ := by
  unfold stepF at h ⊢
  split
  · rfl
  · split
    · rfl
    · split
      · rfl
      · split
        · rename_i h1 h2 h3 h4
          rw [if_neg h1, if_neg h2, if_neg h3, if_pos h4] at h
          exact absurd rfl h
        · rfl
theorem hear_reply (s ph ep pe k e f : Int) (h : (hearF s ph ep pe k e f).1 = 0) : (hearF s ph ep pe k e f).2 = 0 ∨ (3 ≤ (hearF s ph ep pe k e f).2 ∧ (hearF s ph ep pe k e f).2 ≤ 8) := by
  unfold hearF at h ⊢; grind
set_option maxHeartbeats 2000000 in
theorem hear_taken (s : Int) (l : Lg) (k e f : Int) (h : ¬ (hearF s l.ph l.ep l.pe k e f).1 = 0) :
    (stepF s l (hearF s l.ph l.ep l.pe k e f).1 e f).2 = 0 ∧ (stepF s l (hearF s l.ph l.ep l.pe k e f).1 e f).1 ≠ l := by
  have key : ∀ q, hearF s l.ph l.ep l.pe k e f = q → ¬ q.1 = 0 → (validB s l.ph l.ep l.pe = true ∧ srvB f = true ∧ ¬ f = s) ∧
      ((q.1 = 4 ∧ (l.ph = 0 ∨ l.ph = 4 ∨ l.ph = 5) ∧ l.ep < e ∧ e < 1073741824) ∨
       (q.1 = 5 ∧ l.ph = 2) ∨ (q.1 = 6 ∧ l.ph = 4) ∨ (q.1 = 7 ∧ l.ph = 3) ∨ (q.1 = 8 ∧ l.ph = 4) ∨ (q.1 = 3 ∧ l.ph = 2)) := by
    intro q hq hne
    unfold hearF at hq
    split at hq
    · subst hq; simp at hne
    · rename_i h0
      refine ⟨by simp only [Bool.or_eq_true, Bool.not_eq_true', decide_eq_true_eq, not_or, Bool.not_eq_false] at h0; exact ⟨h0.1.1, h0.1.2, h0.2⟩, ?_⟩
      clear h0
      repeat' split at hq
      all_goals subst hq
      all_goals first
        | (simp at hne; done)
        | (simp only at hne ⊢; grind)
  replace key := key _ rfl h
  obtain ⟨⟨hv, hf, hn⟩, h4 | h5 | h6 | h7 | h8 | h3⟩ := key
  all_goals
    obtain ⟨ph, ep, pe⟩ := l
    simp only at *
  · obtain ⟨e1, hp, e2, e3⟩ := h4
    rw [e1]
    have : validB s 4 e f = true := by unfold validB at hv ⊢; grind
    have h0 : stepF s ⟨ph, ep, pe⟩ 4 e f = (⟨4, e, f⟩, 0) := by unfold stepF madeL rightB; grind
    rw [h0]
    exact ⟨rfl, by intro h; simp only [Lg.mk.injEq] at h; omega⟩
  · obtain ⟨e1, rfl⟩ := h5
    rw [e1]
    have : validB s 3 ep pe = true := by unfold validB at hv ⊢; grind
    have h0 : stepF s ⟨2, ep, pe⟩ 5 e f = (⟨3, ep, pe⟩, 0) := by unfold stepF madeL rightB; grind
    rw [h0]
    exact ⟨rfl, by intro h; simp only [Lg.mk.injEq] at h; omega⟩
  · obtain ⟨e1, rfl⟩ := h6
    rw [e1]
    have : validB s 1 ep s = true := by unfold validB at hv ⊢; grind
    have h0 : stepF s ⟨4, ep, pe⟩ 6 e f = (⟨1, ep, s⟩, 0) := by unfold stepF madeL rightB; grind
    rw [h0]
    exact ⟨rfl, by intro h; simp only [Lg.mk.injEq] at h; omega⟩
  · obtain ⟨e1, rfl⟩ := h7
    rw [e1]
    have : validB s 5 ep pe = true := by unfold validB at hv ⊢; grind
    have h0 : stepF s ⟨3, ep, pe⟩ 7 e f = (⟨5, ep, pe⟩, 0) := by unfold stepF madeL rightB; grind
    rw [h0]
    exact ⟨rfl, by intro h; simp only [Lg.mk.injEq] at h; omega⟩
  · obtain ⟨e1, rfl⟩ := h8
    rw [e1]
    have : validB s 5 ep pe = true := by unfold validB at hv ⊢; grind
    have h0 : stepF s ⟨4, ep, pe⟩ 8 e f = (⟨5, ep, pe⟩, 0) := by unfold stepF madeL rightB; grind
    rw [h0]
    exact ⟨rfl, by intro h; simp only [Lg.mk.injEq] at h; omega⟩
  · obtain ⟨e1, rfl⟩ := h3
    rw [e1]
    have : validB s 1 (ep + 1) s = true := by unfold validB at hv ⊢; grind
    have h0 : stepF s ⟨2, ep, pe⟩ 3 e f = (⟨1, ep + 1, s⟩, 0) := by unfold stepF madeL rightB; grind
    rw [h0]
    exact ⟨rfl, by intro h; simp only [Lg.mk.injEq] at h; omega⟩
end Go.Proofs.Ytecdmbcdkfjgfaa
