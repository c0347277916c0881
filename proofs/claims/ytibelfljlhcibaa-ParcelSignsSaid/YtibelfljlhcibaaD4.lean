/- Readers: Int. -/
import Derived.Test.YtibelfljlhcibaaD3
namespace Go.Proofs.Ytibelfljlhcibaa
set_option linter.unusedVariables false
set_option linter.unusedSimpArgs false
open Go.RowKit Go.Deep Go.Lib Go.Proofs.YtibelfljlhcibaaW.PrintLast

theorem and_one64 (x : Nat) (h : x < 18446744073709551616) : bits BinOp.and IntKind.u64 (x : Int) 1 = (x : Int) % 2 := by
  have e := bits_mask .u64 64 (by decide) wraps_u64 1 (by decide) (x : Int) (by omega) (by rw [show (2 : Int) ^ 64 = 18446744073709551616 by decide]; omega)
  have e1 : ((2 : Int) ^ 1 - 1) = 1 := by decide
  have e2 : ((2 : Int) ^ 1) = 2 := by decide
  rw [e1, e2] at e
  exact e
theorem xor_i0 (x : Nat) (h : x < 9223372036854775808) : bits BinOp.xor IntKind.i64 (x : Int) 0 = (x : Int) := by
  unfold bits
  change IntKind.i64.wrap (((BitVec.ofInt 64 (x : Int) ^^^ BitVec.ofInt 64 0).toNat : Nat) : Int) = _
  rw [show BitVec.ofInt 64 0 = 0#64 from rfl, BitVec.xor_zero, BitVec.ofInt_natCast, BitVec.toNat_ofNat, Nat.mod_eq_of_lt (by omega), IntKind.wrap_i64]
  omega
theorem xor_i1 (x : Nat) (h : x < 9223372036854775808) : bits BinOp.xor IntKind.i64 (x : Int) (-1) = -1 - (x : Int) := by
  unfold bits
  change IntKind.i64.wrap (((BitVec.ofInt 64 (x : Int) ^^^ BitVec.ofInt 64 (-1)).toNat : Nat) : Int) = _
  rw [show BitVec.ofInt 64 (-1) = BitVec.allOnes 64 from by decide, BitVec.xor_allOnes, BitVec.ofInt_natCast, BitVec.toNat_not, BitVec.toNat_ofNat, Nat.mod_eq_of_lt (by omega), IntKind.wrap_i64]
  omega
theorem unfold_bits (i : Int) (h0 : -9223372036854775808 ≤ i) (h1 : i ≤ 9223372036854775807) : bits BinOp.xor IntKind.i64 (RowKit.wrap64 ((foldZ i : Int) / 2)) (RowKit.wrap64 (-RowKit.wrap64 (bits BinOp.and IntKind.u64 (foldZ i : Int) 1))) = i := by
  rw [and_one64 _ (foldZ_lt h0 h1)]
  unfold foldZ
  by_cases h : 0 ≤ i
  · rw [if_pos h]
    have e1 : RowKit.wrap64 ((((2 * i).toNat : Nat) : Int) / 2) = ((i.toNat : Nat) : Int) := by rw [IntWalk.wrap64_in _ (by omega)]; omega
    have e2 : RowKit.wrap64 (-RowKit.wrap64 ((((2 * i).toNat : Nat) : Int) % 2)) = 0 := by rw [IntWalk.wrap64_in ((((2 * i).toNat : Nat) : Int) % 2) (by omega), IntWalk.wrap64_in _ (by omega)]; omega
    rw [e1, e2, xor_i0 _ (by omega)]; omega
  · rw [if_neg h]
    have e1 : RowKit.wrap64 ((((-2 * i - 1).toNat : Nat) : Int) / 2) = (((-i - 1).toNat : Nat) : Int) := by rw [IntWalk.wrap64_in _ (by omega)]; omega
    have e2 : RowKit.wrap64 (-RowKit.wrap64 ((((-2 * i - 1).toNat : Nat) : Int) % 2)) = -1 := by rw [IntWalk.wrap64_in ((((-2 * i - 1).toNat : Nat) : Int) % 2) (by omega), IntWalk.wrap64_in _ (by omega)]; omega
    rw [e1, e2, xor_i1 _ (by omega)]; omega
set_option maxHeartbeats 400000 in
theorem rInt_any {w : World} {M k : Nat} {bs rest : List Int} {i : Int} (h : RdAt w M k bs 0) (hM : M ≤ w.heap.size) (hb : ∀ x ∈ bs, 0 ≤ x ∧ x < 256) (i0 : -9223372036854775808 ≤ i) (i1 : i ≤ 9223372036854775807) (hr : readN 0 0 bs = (some (foldZ i : Int), 0, rest)) :
    Calls Try.prog 25 #[.pointer (some ⟨k, 0, none⟩)] w fun e w' => e = .returned (.int .i64 i) ∧ RdAt w' M k rest 0 ∧ w.grownBy w' (some k) := by
  have NM := rNum_any h hM hb
  rw [hr] at NM
  have KN := Lib.hid NM
  clear NM h hb hr
  have UF := Lib.hid (unfold_bits i i0 i1)
  generalize (foldZ i : Int) = z at *
  go_enter Try.func25, Try.ntmps25
  go_wp2_with (fail)
  refine KN.out.mono ?_
  rintro e w2 ⟨rfl, R2, G2⟩
  go_wp2_with (fail)
  go_ret
  have e : outV (some z) 0 = z := rfl
  rw [e]
  exact ⟨ret_i UF.out, R2, G2⟩
end Go.Proofs.Ytibelfljlhcibaa
