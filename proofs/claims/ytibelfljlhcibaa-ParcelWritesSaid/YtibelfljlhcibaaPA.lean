/- Arithmetic of bits: groups of seven, folding. -/
import Derived.Test.YtibelfljlhcibaaPM
import Derived.Lib.EndianBits
import Derived.WalkKit
namespace Go.Proofs.Ytibelfljlhcibaa
set_option linter.unusedVariables false
set_option linter.unusedSimpArgs false
open Go.RowKit Go.Lib

set_option maxHeartbeats 1000000 in
set_option maxRecDepth 100000 in
theorem or128 (n : Nat) : bits BinOp.or IntKind.u8 ((n : Int) % 256) 128 = ((n % 128 + 128 : Nat) : Int) := by
  have h : ∀ k : Fin 256, bits BinOp.or IntKind.u8 ((k.val : Nat) : Int) 128 = ((k.val % 128 + 128 : Nat) : Int) := by decide
  have h1 := h ⟨n % 256, by omega⟩
  simp only at h1
  rw [show ((n : Int) % 256) = ((n % 256 : Nat) : Int) by omega, h1]
  omega
set_option maxRecDepth 100000 in
theorem and127 (c : Int) (c0 : 0 ≤ c) (c1 : c < 256) : bits BinOp.and IntKind.u8 c 127 = c % 128 := by
  have h : ∀ k : Fin 256, bits BinOp.and IntKind.u8 ((k.val : Nat) : Int) 127 = ((k.val % 128 : Nat) : Int) := by decide
  obtain ⟨a, rfl⟩ := Int.eq_ofNat_of_zero_le c0
  have h1 := h ⟨a, by omega⟩
  simp only at h1
  rw [h1]; omega
theorem or_shift (i p n : Nat) (hp : p = 2 ^ i) (x : Nat) (hn : n < p) (hx : x * p < 18446744073709551616) (hpp : p < 18446744073709551616) : bits BinOp.or IntKind.u64 (n : Int) (IntKind.u64.wrap (IntKind.u64.wrap (x : Int) * 2 ^ i)) = ((n + x * p : Nat) : Int) := by
  have h64 : (2 : Int) ^ 64 = 18446744073709551616 := by decide
  have e : (2 : Int) ^ i = (p : Int) := by rw [hp]; simp
  have hp0 : 0 < p := by rw [hp]; exact Nat.two_pow_pos i
  have hxx : x ≤ x * p := Nat.le_mul_of_pos_right x hp0
  have hxp : ((x : Int) * (p : Int)) = ((x * p : Nat) : Int) := by simp
  rw [wraps_u64 (x : Int) (by omega) (by rw [h64]; omega), e, hxp, wraps_u64 ((x * p : Nat) : Int) (by omega) (by rw [h64]; omega)]
  rw [bits_join_low .u64 64 (by decide) wraps_u64 i (n : Int) ((x * p : Nat) : Int) (by omega) (by rw [e]; omega) (by rw [h64]; omega) (by omega) (by rw [e, ← hxp]; exact Int.mul_emod_left _ _) (by rw [h64]; omega)]
  omega
theorem or_group (j n : Nat) (c : Int) (hj : j ≤ 9) (hn : n < 128 ^ j) (c0 : 0 ≤ c) (c1 : c < 256) (h9 : j = 9 → c ≤ 1) :
    bits BinOp.or IntKind.u64 (n : Int) (IntKind.u64.wrap (IntKind.u64.wrap (bits BinOp.and IntKind.u8 c 127) * 2 ^ (7 * j))) = ((n + (c % 128).toNat * 128 ^ j : Nat) : Int) := by
  rw [and127 c c0 c1]
  obtain ⟨x, hx⟩ := Int.eq_ofNat_of_zero_le (Int.emod_nonneg c (by decide : (128 : Int) ≠ 0))
  rw [hx, Int.toNat_natCast]
  have hx1 : x < 128 := by omega
  have hx9 : j = 9 → x ≤ 1 := by omega
  have hp : 128 ^ j = 2 ^ (7 * j) := by rw [Nat.pow_mul]
  have h8 : j ≤ 8 → 128 ^ j ≤ 72057594037927936 := fun h => Nat.le_trans (Nat.pow_le_pow_right (by decide) h) (by decide)
  have h99 : j = 9 → 128 ^ j = 9223372036854775808 := fun h => by rw [h]
  refine or_shift (7 * j) (128 ^ j) n hp x hn ?_ ?_
  · by_cases h : j = 9
    · rw [h99 h]; have := hx9 h; omega
    · have := h8 (by omega)
      calc x * 128 ^ j ≤ 127 * 72057594037927936 := Nat.mul_le_mul (by omega) this
        _ < 18446744073709551616 := by decide
  · by_cases h : j = 9
    · rw [h99 h]; decide
    · have := h8 (by omega); omega
theorem xor_zero64 (x : Nat) (h : x < 18446744073709551616) : bits BinOp.xor IntKind.u64 (x : Int) 0 = (x : Int) := by
  unfold bits
  change IntKind.u64.wrap (((BitVec.ofInt 64 (x : Int) ^^^ BitVec.ofInt 64 0).toNat : Nat) : Int) = _
  rw [show BitVec.ofInt 64 0 = 0#64 from rfl, BitVec.xor_zero, BitVec.ofInt_natCast, BitVec.toNat_ofNat, Nat.mod_eq_of_lt (by simpa using h), IntKind.wrap_u64]
  omega
theorem xor_ones64 (x : Nat) (h : x < 18446744073709551616) : bits BinOp.xor IntKind.u64 (x : Int) 18446744073709551615 = 18446744073709551615 - (x : Int) := by
  unfold bits
  change IntKind.u64.wrap (((BitVec.ofInt 64 (x : Int) ^^^ BitVec.ofInt 64 18446744073709551615).toNat : Nat) : Int) = _
  rw [show BitVec.ofInt 64 18446744073709551615 = BitVec.allOnes 64 from by decide, BitVec.xor_allOnes, BitVec.ofInt_natCast, BitVec.toNat_not, BitVec.toNat_ofNat, Nat.mod_eq_of_lt (by simpa using h), IntKind.wrap_u64]
  omega
theorem fold_bits (i : Int) (h0 : -9223372036854775808 ≤ i) (h1 : i ≤ 9223372036854775807) :
    bits BinOp.xor IntKind.u64 (IntKind.u64.wrap (IntKind.u64.wrap i * 2)) (IntKind.u64.wrap (i / 9223372036854775808)) = (foldZ i : Int) := by
  unfold foldZ
  by_cases h : 0 ≤ i
  · rw [if_pos h]
    have e1 : IntKind.u64.wrap (IntKind.u64.wrap i * 2) = (((2 * i).toNat : Nat) : Int) := by rw [IntKind.wrap_u64, IntKind.wrap_u64]; omega
    have e2 : IntKind.u64.wrap (i / 9223372036854775808) = 0 := by rw [IntKind.wrap_u64]; omega
    rw [e1, e2, xor_zero64 _ (by omega)]
  · rw [if_neg h]
    have e1 : IntKind.u64.wrap (IntKind.u64.wrap i * 2) = (((2 * i + 18446744073709551616).toNat : Nat) : Int) := by rw [IntKind.wrap_u64, IntKind.wrap_u64]; omega
    have e2 : IntKind.u64.wrap (i / 9223372036854775808) = 18446744073709551615 := by rw [IntKind.wrap_u64]; omega
    rw [e1, e2, xor_ones64 _ (by omega)]
    omega
theorem and_one64 (x : Nat) (h : x < 18446744073709551616) : bits BinOp.and IntKind.u64 (x : Int) 1 = (x : Int) % 2 := by
  have e := bits_mask .u64 64 (by decide) wraps_u64 1 (by decide) (x : Int) (by omega) (by rw [show (2 : Int) ^ 64 = 18446744073709551616 by decide]; omega)
  have e1 : ((2 : Int) ^ 1 - 1) = 1 := by decide
  have e2 : ((2 : Int) ^ 1) = 2 := by decide
  rw [e1, e2] at e
  exact e
theorem xor_i0 (x : Nat) (h : x < 9223372036854775808) : bits BinOp.xor IntKind.i64 (x : Int) 0 = (x : Int) := by
  unfold bits
  change IntKind.i64.wrap (((BitVec.ofInt 64 (x : Int) ^^^ BitVec.ofInt 64 0).toNat : Nat) : Int) = _
  rw [show BitVec.ofInt 64 0 = 0#64 from rfl, BitVec.xor_zero, BitVec.ofInt_natCast, BitVec.toNat_ofNat, Nat.mod_eq_of_lt (by omega), IntKind.wrap_i64]
  omega
theorem xor_i1 (x : Nat) (h : x < 9223372036854775808) : bits BinOp.xor IntKind.i64 (x : Int) (-1) = -1 - (x : Int) := by
  unfold bits
  change IntKind.i64.wrap (((BitVec.ofInt 64 (x : Int) ^^^ BitVec.ofInt 64 (-1)).toNat : Nat) : Int) = _
  rw [show BitVec.ofInt 64 (-1) = BitVec.allOnes 64 from by decide, BitVec.xor_allOnes, BitVec.ofInt_natCast, BitVec.toNat_not, BitVec.toNat_ofNat, Nat.mod_eq_of_lt (by omega), IntKind.wrap_i64]
  omega
theorem unfold_bits (i : Int) (h0 : -9223372036854775808 ≤ i) (h1 : i ≤ 9223372036854775807) : bits BinOp.xor IntKind.i64 (RowKit.wrap64 ((foldZ i : Int) / 2)) (RowKit.wrap64 (-RowKit.wrap64 (bits BinOp.and IntKind.u64 (foldZ i : Int) 1))) = i := by
  rw [and_one64 _ (foldZ_lt h0 h1)]
  unfold foldZ
  by_cases h : 0 ≤ i
  · rw [if_pos h]
    have e1 : RowKit.wrap64 ((((2 * i).toNat : Nat) : Int) / 2) = ((i.toNat : Nat) : Int) := by rw [IntWalk.wrap64_in _ (by omega)]; omega
    have e2 : RowKit.wrap64 (-RowKit.wrap64 ((((2 * i).toNat : Nat) : Int) % 2)) = 0 := by rw [IntWalk.wrap64_in ((((2 * i).toNat : Nat) : Int) % 2) (by omega), IntWalk.wrap64_in _ (by omega)]; omega
    rw [e1, e2, xor_i0 _ (by omega)]; omega
  · rw [if_neg h]
    have e1 : RowKit.wrap64 ((((-2 * i - 1).toNat : Nat) : Int) / 2) = (((-i - 1).toNat : Nat) : Int) := by rw [IntWalk.wrap64_in _ (by omega)]; omega
    have e2 : RowKit.wrap64 (-RowKit.wrap64 ((((-2 * i - 1).toNat : Nat) : Int) % 2)) = -1 := by rw [IntWalk.wrap64_in ((((-2 * i - 1).toNat : Nat) : Int) % 2) (by omega), IntWalk.wrap64_in _ (by omega)]; omega
    rw [e1, e2, xor_i1 _ (by omega)]; omega
theorem unfold_any (n : Nat) (hn : n < 18446744073709551616) : bits BinOp.xor IntKind.i64 (RowKit.wrap64 ((n : Int) / 2)) (RowKit.wrap64 (-RowKit.wrap64 (bits BinOp.and IntKind.u64 (n : Int) 1))) = unfoldZ n := by
  have h := unfoldZ_range hn
  have := unfold_bits (unfoldZ n) h.1 h.2
  rwa [fold_unfold] at this
end Go.Proofs.Ytibelfljlhcibaa
