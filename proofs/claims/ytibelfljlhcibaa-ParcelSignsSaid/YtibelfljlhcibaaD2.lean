/- Arithmetic of folding. -/
import Derived.Test.YtibelfljlhcibaaD1
namespace Go.Proofs.Ytibelfljlhcibaa
set_option linter.unusedVariables false
set_option linter.unusedSimpArgs false
open Go.RowKit Go.Deep

/-- The number to which an int folds. -/
def foldZ (i : Int) : Nat := if 0 ≤ i then (2 * i).toNat else (-2 * i - 1).toNat
theorem xor_zero64 (x : Nat) (h : x < 18446744073709551616) : bits BinOp.xor IntKind.u64 (x : Int) 0 = (x : Int) := by
  unfold bits
  change IntKind.u64.wrap (((BitVec.ofInt 64 (x : Int) ^^^ BitVec.ofInt 64 0).toNat : Nat) : Int) = _
  rw [show BitVec.ofInt 64 0 = 0#64 from rfl, BitVec.xor_zero, BitVec.ofInt_natCast, BitVec.toNat_ofNat, Nat.mod_eq_of_lt (by simpa using h), IntKind.wrap_u64]
  omega
theorem xor_ones64 (x : Nat) (h : x < 18446744073709551616) : bits BinOp.xor IntKind.u64 (x : Int) 18446744073709551615 = 18446744073709551615 - (x : Int) := by
  unfold bits
  change IntKind.u64.wrap (((BitVec.ofInt 64 (x : Int) ^^^ BitVec.ofInt 64 18446744073709551615).toNat : Nat) : Int) = _
  rw [show BitVec.ofInt 64 18446744073709551615 = BitVec.allOnes 64 from by decide, BitVec.xor_allOnes, BitVec.ofInt_natCast, BitVec.toNat_not, BitVec.toNat_ofNat, Nat.mod_eq_of_lt (by simpa using h), IntKind.wrap_u64]
  omega
theorem fold_bits (i : Int) (h0 : -9223372036854775808 ≤ i) (h1 : i ≤ 9223372036854775807) :
    bits BinOp.xor IntKind.u64 (IntKind.u64.wrap (IntKind.u64.wrap i * 2)) (IntKind.u64.wrap (i / 9223372036854775808)) = (foldZ i : Int) := by
  unfold foldZ
  by_cases h : 0 ≤ i
  · rw [if_pos h]
    have e1 : IntKind.u64.wrap (IntKind.u64.wrap i * 2) = (((2 * i).toNat : Nat) : Int) := by rw [IntKind.wrap_u64, IntKind.wrap_u64]; omega
    have e2 : IntKind.u64.wrap (i / 9223372036854775808) = 0 := by rw [IntKind.wrap_u64]; omega
    rw [e1, e2, xor_zero64 _ (by omega)]
  · rw [if_neg h]
    have e1 : IntKind.u64.wrap (IntKind.u64.wrap i * 2) = (((2 * i + 18446744073709551616).toNat : Nat) : Int) := by rw [IntKind.wrap_u64, IntKind.wrap_u64]; omega
    have e2 : IntKind.u64.wrap (i / 9223372036854775808) = 18446744073709551615 := by rw [IntKind.wrap_u64]; omega
    rw [e1, e2, xor_ones64 _ (by omega)]
    omega
end Go.Proofs.Ytibelfljlhcibaa
