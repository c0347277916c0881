/- Arithmetic of seven bits. -/
import Derived.Test.YtibelfljlhcibaaA1
import Derived.Lib.EndianBits
namespace Go.Proofs.Ytibelfljlhcibaa
set_option linter.unusedVariables false
set_option linter.unusedSimpArgs false
open Go.RowKit Go.Deep Go.Lib

set_option maxRecDepth 100000 in
theorem and127 (c : Int) (c0 : 0 ≤ c) (c1 : c < 256) : bits BinOp.and IntKind.u8 c 127 = c % 128 := by
  have h : ∀ k : Fin 256, bits BinOp.and IntKind.u8 ((k.val : Nat) : Int) 127 = ((k.val % 128 : Nat) : Int) := by decide
  obtain ⟨a, rfl⟩ := Int.eq_ofNat_of_zero_le c0
  have h1 := h ⟨a, by omega⟩
  simp only at h1
  rw [h1]; omega
theorem or_shift (i p n : Nat) (hp : p = 2 ^ i) (x : Nat) (hn : n < p) (hx : x * p < 18446744073709551616) (hpp : p < 18446744073709551616) : bits BinOp.or IntKind.u64 (n : Int) (IntKind.u64.wrap (IntKind.u64.wrap (x : Int) * 2 ^ i)) = ((n + x * p : Nat) : Int) := by
  have h64 : (2 : Int) ^ 64 = 18446744073709551616 := by decide
  have e : (2 : Int) ^ i = (p : Int) := by rw [hp]; simp
  have hp0 : 0 < p := by rw [hp]; exact Nat.two_pow_pos i
  have hxx : x ≤ x * p := Nat.le_mul_of_pos_right x hp0
  have hxp : ((x : Int) * (p : Int)) = ((x * p : Nat) : Int) := by simp
  rw [wraps_u64 (x : Int) (by omega) (by rw [h64]; omega), e, hxp, wraps_u64 ((x * p : Nat) : Int) (by omega) (by rw [h64]; omega)]
  rw [bits_join_low .u64 64 (by decide) wraps_u64 i (n : Int) ((x * p : Nat) : Int) (by omega) (by rw [e]; omega) (by rw [h64]; omega) (by omega) (by rw [e, ← hxp]; exact Int.mul_emod_left _ _) (by rw [h64]; omega)]
  omega
theorem or_group (j n : Nat) (c : Int) (hj : j ≤ 9) (hn : n < 128 ^ j) (c0 : 0 ≤ c) (c1 : c < 256) (h9 : j = 9 → c ≤ 1) :
    bits BinOp.or IntKind.u64 (n : Int) (IntKind.u64.wrap (IntKind.u64.wrap (bits BinOp.and IntKind.u8 c 127) * 2 ^ (7 * j))) = ((n + (c % 128).toNat * 128 ^ j : Nat) : Int) := by
  rw [and127 c c0 c1]
  obtain ⟨x, hx⟩ := Int.eq_ofNat_of_zero_le (Int.emod_nonneg c (by decide : (128 : Int) ≠ 0))
  rw [hx, Int.toNat_natCast]
  have hx1 : x < 128 := by omega
  have hx9 : j = 9 → x ≤ 1 := by omega
  have hp : 128 ^ j = 2 ^ (7 * j) := by rw [Nat.pow_mul]
  have h8 : j ≤ 8 → 128 ^ j ≤ 72057594037927936 := fun h => Nat.le_trans (Nat.pow_le_pow_right (by decide) h) (by decide)
  have h99 : j = 9 → 128 ^ j = 9223372036854775808 := fun h => by rw [h]
  refine or_shift (7 * j) (128 ^ j) n hp x hn ?_ ?_
  · by_cases h : j = 9
    · rw [h99 h]; have := hx9 h; omega
    · have := h8 (by omega)
      calc x * 128 ^ j ≤ 127 * 72057594037927936 := Nat.mul_le_mul (by omega) this
        _ < 18446744073709551616 := by decide
  · by_cases h : j = 9
    · rw [h99 h]; decide
    · have := h8 (by omega); omega
end Go.Proofs.Ytibelfljlhcibaa
