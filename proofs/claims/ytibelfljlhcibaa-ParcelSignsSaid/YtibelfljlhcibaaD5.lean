/- The plain law of ParcelSigns: two folds that are neighbours. -/
import Derived.Test.YtibelfljlhcibaaD4
namespace Go.Proofs.Ytibelfljlhcibaa
set_option linter.unusedVariables false
set_option linter.unusedSimpArgs false

theorem formN_pair (t : Nat) : ∃ (a : Nat) (tl : List Int), a % 2 = 0 ∧ a < 255 ∧ formN (2 * t) = (a : Int) :: tl ∧ formN (2 * t + 1) = ((a + 1 : Nat) : Int) :: tl := by
  by_cases h : 2 * t < 128
  · exact ⟨2 * t, [], by omega, by omega, formN_small h, formN_small (by omega)⟩
  · refine ⟨2 * t % 128 + 128, formN (2 * t / 128), by omega, by omega, formN_big h, ?_⟩
    rw [formN_big (by omega), show (2 * t + 1) / 128 = 2 * t / 128 by omega, show (2 * t + 1) % 128 + 128 = 2 * t % 128 + 128 + 1 by omega]
theorem foldZ_pair (i : Int) : ∃ t : Nat, (foldZ i = 2 * t ∧ foldZ (-1 - i) = 2 * t + 1) ∨ (foldZ i = 2 * t + 1 ∧ foldZ (-1 - i) = 2 * t) := by
  unfold foldZ
  by_cases h : 0 ≤ i
  · rw [if_pos h, if_neg (by omega)]
    exact ⟨i.toNat, Or.inl ⟨by omega, by omega⟩⟩
  · rw [if_neg h, if_pos (by omega)]
    exact ⟨(-1 - i).toNat, Or.inr ⟨by omega, by omega⟩⟩
end Go.Proofs.Ytibelfljlhcibaa
