/- The plain laws of ParcelNums. -/
import Derived.Test.YtibelfljlhcibaaB4
namespace Go.Proofs.Ytibelfljlhcibaa
set_option linter.unusedVariables false
set_option linter.unusedSimpArgs false

theorem formN_range : ∀ (n : Nat), ∀ x ∈ formN n, (0 : Int) ≤ x ∧ x < 256 := by
  intro n
  induction n using Nat.strongRecOn with
  | ind n ih =>
    intro x hx
    by_cases h : n < 128
    · rw [formN_small h] at hx
      simp at hx; omega
    · rw [formN_big h] at hx
      rcases List.mem_cons.1 hx with rfl | hx
      · omega
      · exact ih (n / 128) (by omega) x hx
theorem form_fits {j m : Nat} (h : m * 128 ^ j < 18446744073709551616) (hj : j ≤ 9) : (j = 9 → m ≤ 1) ∧ (¬ m < 128 → j ≤ 8 ∧ (m / 128) * 128 ^ (j + 1) < 18446744073709551616) := by
  have p9 : (128 : Nat) ^ 9 = 9223372036854775808 := by decide
  have hpos : 0 < 128 ^ j := Nat.pow_pos (by decide)
  constructor
  · intro h9
    rw [h9, p9] at h; omega
  · intro hm
    constructor
    · by_cases h9 : j = 9
      · rw [h9, p9] at h; omega
      · omega
    · refine Nat.lt_of_le_of_lt ?_ h
      rw [Nat.pow_succ, Nat.mul_comm (128 ^ j) 128, ← Nat.mul_assoc]
      exact Nat.mul_le_mul_right _ (Nat.div_mul_le_self m 128)
theorem readN_form : ∀ (m j acc : Nat) (rest : List Int), j ≤ 9 → m * 128 ^ j < 18446744073709551616 → (0 < j → m ≠ 0) → readN j acc (formN m ++ rest) = (some ((acc + m * 128 ^ j : Nat) : Int), 0, rest) := by
  intro m
  induction m using Nat.strongRecOn with
  | ind m ih =>
    intro j acc rest hj hf hz
    obtain ⟨f1, f2⟩ := form_fits hf hj
    by_cases h : m < 128
    · rw [formN_small h]
      simp only [List.cons_append, List.nil_append]
      unfold readN
      rw [if_neg (by omega), if_pos (by omega)]
      have : ((m : Int) % 128).toNat = m := by omega
      rw [this]
    · rw [formN_big h]
      simp only [List.cons_append]
      unfold readN
      rw [if_neg (by omega), if_neg (by omega)]
      have hm : (((m % 128 + 128 : Nat) : Int) % 128).toNat = m % 128 := by omega
      rw [hm, ih (m / 128) (by omega) (j + 1) _ rest (by have := (f2 h).1; omega) (f2 h).2 (by omega)]
      have : acc + m % 128 * 128 ^ j + m / 128 * 128 ^ (j + 1) = acc + m * 128 ^ j := by
        rw [Nat.pow_succ, Nat.mul_comm (128 ^ j) 128, ← Nat.mul_assoc, Nat.add_assoc, ← Nat.add_mul]
        congr 2
        omega
      rw [this]
theorem readN_cut : ∀ (m j acc i : Nat), j ≤ 9 → m * 128 ^ j < 18446744073709551616 → (0 < j → m ≠ 0) → i < (formN m).length → readN j acc ((formN m).take i) = (none, 0, []) := by
  intro m
  induction m using Nat.strongRecOn with
  | ind m ih =>
    intro j acc i hj hf hz hi
    obtain ⟨f1, f2⟩ := form_fits hf hj
    rcases i with _ | i
    · simp [readN]
    · by_cases h : m < 128
      · rw [formN_small h] at hi; simp at hi
      · rw [formN_big h] at hi ⊢
        simp only [List.length_cons] at hi
        rw [List.take_succ_cons]
        unfold readN
        rw [if_neg (by omega), if_neg (by omega)]
        exact ih (m / 128) (by omega) (j + 1) _ i (by have := (f2 h).1; omega) (f2 h).2 (by omega) (by omega)
theorem formN_last : ∀ (m : Nat), m ≠ 0 → ∀ x, (formN m)[(formN m).length - 1]? = some x → x ≠ 0 := by
  intro m
  induction m using Nat.strongRecOn with
  | ind m ih =>
    intro hm x hx
    by_cases h : m < 128
    · rw [formN_small h] at hx
      simp at hx; omega
    · rw [formN_big h] at hx
      have hl := formN_pos (m / 128)
      simp only [List.length_cons, Nat.add_sub_cancel] at hx
      rw [show (formN (m / 128)).length = ((formN (m / 128)).length - 1) + 1 by omega, List.getElem?_cons_succ] at hx
      exact ih (m / 128) (by omega) (by omega) x hx
theorem formN_one {m : Nat} (h : 1 < (formN m).length) : m ≠ 0 := by
  intro h0
  subst h0
  rw [formN_small (by decide)] at h
  simp at h
end Go.Proofs.Ytibelfljlhcibaa
