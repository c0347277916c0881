/- The protocol of ledgers, in plain Lean: one holder, as 'one' reckons it. -/
import Derived.Test.YtecdmbcdkfjgfaaP4
namespace Go.Proofs.Ytecdmbcdkfjgfaa
set_option linter.unusedVariables false
set_option linter.unusedSimpArgs false

def keyI (l : Lg) : Int := if l.ph = 1 then 2 * l.ep + 1 else 2 * l.ep
def oneStep (row : List Lg) (st : Int × Int × Int) (i : Nat) : Int × Int × Int :=
  if (lgAt row i).ph ≠ 1 ∧ (lgAt row i).ph ≠ 2 ∧ (lgAt row i).ph ≠ 3 then st
  else if st.1 < 0 ∨ keyI (lgAt row st.1) < keyI (lgAt row i) then (i, 0, if (lgAt row i).ph = 1 then st.2.2 + 1 else st.2.2)
  else if keyI (lgAt row i) = keyI (lgAt row st.1) then (st.1, st.2.1 + 1, if (lgAt row i).ph = 1 then st.2.2 + 1 else st.2.2)
  else (st.1, st.2.1, if (lgAt row i).ph = 1 then st.2.2 + 1 else st.2.2)
def oneSt (row : List Lg) : Nat → Int × Int × Int
  | 0 => (-1, 0, 0)
  | i + 1 => oneStep row (oneSt row i) i
theorem oneSt_spec {row : List Lg} {E H : Int} {O : Int → Int → Int → Prop} (c : Core row.length (at0 row) E H O) : ∀ i : Nat, i ≤ row.length →
    (-1 ≤ (oneSt row i).1 ∧ (oneSt row i).1 < i) ∧ (0 ≤ (oneSt row i).2.1 ∧ (oneSt row i).2.1 ≤ i) ∧ (0 ≤ (oneSt row i).2.2 ∧ (oneSt row i).2.2 ≤ i) ∧
    (H < i → oneSt row i = (H, 0, if (lgAt row H).ph = 1 then 1 else 0)) ∧
    ((i : Int) ≤ H → (oneSt row i).2.2 = 0 ∧ ((oneSt row i).1 = -1 ∨ keyI (lgAt row (oneSt row i).1) < keyI (lgAt row H)))
  | 0, _ => by
    have := c.h0
    refine ⟨by simp [oneSt], by simp [oneSt], by simp [oneSt], by omega, fun _ => by simp [oneSt]⟩
  | i + 1, hi => by
    have h0 := c.h0
    have hn := c.hn
    have hE := c.hE
    have ih := oneSt_spec c i (by omega)
    have tok := c.tok
    have i12 := c.i12 i (by omega) (by omega)
    have beh := fun h => c.behind (i := i) (by omega) (by omega) h
    rw [at0_lgAt h0] at hE tok
    rw [at0_lgAt (by omega)] at i12
    rw [at0_lgAt (by omega), at0_lgAt h0] at beh
    have hHH : (i : Int) = H → lgAt row i = lgAt row H := fun h => by rw [h]
    rw [oneSt]
    generalize oneSt row i = st at *
    obtain ⟨best, ties, owners⟩ := st
    simp only at ih
    obtain ⟨⟨a1, a2⟩, ⟨a3, a4⟩, ⟨a5, a6⟩, a7, a8⟩ := ih
    have hk : (i : Int) ≠ H → ((lgAt row i).ph = 1 ∨ (lgAt row i).ph = 2 ∨ (lgAt row i).ph = 3) → (lgAt row i).ph = 3 ∧ keyI (lgAt row i) < keyI (lgAt row H) := by
      intro hne hp
      obtain ⟨b1, b2⟩ := beh hne hp
      refine ⟨b1, ?_⟩
      unfold keyI
      rw [if_neg (by omega)]
      split <;> omega
    unfold oneStep
    simp only
    by_cases hp : (lgAt row i).ph ≠ 1 ∧ (lgAt row i).ph ≠ 2 ∧ (lgAt row i).ph ≠ 3
    · rw [if_pos hp]
      have hiH : (i : Int) ≠ H := fun h => by
        rw [hHH h] at hp; omega
      refine ⟨by simp only; omega, by simp only; omega, by simp only; omega, fun h => a7 (by omega), fun h => a8 (by omega)⟩
    · rw [if_neg hp]
      have hp' : (lgAt row i).ph = 1 ∨ (lgAt row i).ph = 2 ∨ (lgAt row i).ph = 3 := by omega
      by_cases hiH : (i : Int) = H
      · obtain ⟨b1, b2⟩ := a8 (by omega)
        have hc : best < 0 ∨ keyI (lgAt row best) < keyI (lgAt row i) := by
          rcases b2 with b2 | b2
          · left; omega
          · right; rw [hHH hiH]; exact b2
        rw [if_pos hc, b1, hHH hiH, hiH]
        refine ⟨by simp only; omega, by simp only; omega, by simp only; split <;> omega, fun _ => rfl, fun h => by omega⟩
      · obtain ⟨k1, k2⟩ := hk hiH hp'
        have hn1 : ¬ (lgAt row i).ph = 1 := by omega
        simp only [if_neg hn1]
        by_cases hlt : (i : Int) < H
        · obtain ⟨b1, b2⟩ := a8 (by omega)
          by_cases hc : best < 0 ∨ keyI (lgAt row best) < keyI (lgAt row i)
          · rw [if_pos hc]
            exact ⟨by simp only; omega, by simp only; omega, by simp only; omega, fun h => by omega, fun _ => ⟨b1, Or.inr k2⟩⟩
          · rw [if_neg hc]
            split
            · exact ⟨by simp only; omega, by simp only; omega, by simp only; omega, fun h => by omega, fun _ => ⟨b1, b2⟩⟩
            · exact ⟨by simp only; omega, by simp only; omega, by simp only; omega, fun h => by omega, fun _ => ⟨b1, b2⟩⟩
        · have b := a7 (by omega)
          simp only [Prod.mk.injEq] at b
          obtain ⟨rfl, rfl, rfl⟩ := b
          rw [if_neg (by omega), if_neg (by omega)]
          exact ⟨by simp only; omega, by simp only; omega, by simp only; omega, fun _ => rfl, fun h => by omega⟩
end Go.Proofs.Ytecdmbcdkfjgfaa
