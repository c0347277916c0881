/- up: what its steps come to. -/
import Derived.Test.YtibelfljlhcibaaPU
namespace Go.Proofs.Ytibelfljlhcibaa
set_option linter.unusedVariables false
set_option linter.unusedSimpArgs false
open Go.RowKit Go.Deep Go.Lib Go.Proofs.YtibelfljlhcibaaW.PrintLast

theorem w8 (n : Int) (h0 : 0 ≤ n) (h1 : n < 2 ^ 8) : IntKind.u8.wrap n = n := by
  have : (2 : Int) ^ 8 = 256 := by decide
  simp [IntKind.wrap, IntKind.bits, IntKind.signed]; omega
theorem step_bound {u p b : Nat} (h : u < p) (hp : p * 256 ≤ b) : u * 256 + 256 ≤ b := by
  have h1 := Nat.mul_le_mul_right 256 (show u + 1 ≤ p from h)
  rw [Nat.add_mul, Nat.one_mul] at h1
  exact Nat.le_trans h1 hp
theorem stepU_u64_eq (a : Nat) (c : Int) (h0 : 0 ≤ c) (h1 : c < 256) (ha : a * 256 + 256 ≤ 18446744073709551616) : stepU_u64 (a : Int) c = ((a * 256 + c.toNat : Nat) : Int) := by
  have p8 : (2 : Int) ^ 8 = 256 := by decide
  have pb : (2 : Int) ^ 64 = 18446744073709551616 := by decide
  have e1 : IntKind.u64.wrap ((a : Int) * 16) = (a : Int) * 16 := wraps_u64 _ (by omega) (by rw [pb]; omega)
  have e2 : IntKind.u64.wrap ((a : Int) * 16 * 16) = ((a * 256 : Nat) : Int) := by rw [wraps_u64 _ (by omega) (by rw [pb]; omega)]; omega
  unfold stepU_u64
  rw [e1, e2]
  rw [wraps_u64 c h0 (by rw [pb]; omega)]
  rw [bits_join .u64 64 (by decide) wraps_u64 8 _ _ (by omega) (by rw [p8]; omega) (by rw [pb]; omega) h0 (by rw [p8]; omega) (by rw [pb]; omega)]
  omega
theorem accU_u64_eq (p : List Int) (hb : ∀ x ∈ p, (0 : Int) ≤ x ∧ x < 256) (hl : p.length ≤ 8) : ∀ k, k ≤ p.length → accU_u64 (backs p k) = (upN (p.drop (p.length - k)) : Int)
  | 0, _ => by rw [Nat.sub_zero, List.drop_length]; rfl
  | k + 1, hk => by
    rw [backs, accU_u64_snoc, accU_u64_eq p hb hl k (by omega)]
    have hj : p.length - 1 - k < p.length := by omega
    have hx := hb (p.getD (p.length - 1 - k) 0) (by rw [List.getD_eq_getElem?_getD, List.getElem?_eq_getElem hj]; exact List.getElem_mem hj)
    have hlt : upN (p.drop (p.length - k)) < 256 ^ k := by
      have := upN_lt (p.drop (p.length - k)) (fun x hx => hb x (List.mem_of_mem_drop hx))
      rwa [List.length_drop, show p.length - (p.length - k) = k by omega] at this
    have hpow : 256 ^ k * 256 ≤ 18446744073709551616 := by
      rw [← Nat.pow_succ]
      exact Nat.le_trans (Nat.pow_le_pow_right (by decide) (by omega : k + 1 ≤ 8)) (by simp)
    generalize 256 ^ k = P at hlt hpow
    have hst := stepU_u64_eq (upN (p.drop (p.length - k))) (p.getD (p.length - 1 - k) 0) hx.1 hx.2 (step_bound hlt hpow)
    rw [hst]
    rw [show p.length - (k + 1) = p.length - 1 - k by omega, upN_append_one p _ hj hb, show p.length - 1 - k + 1 = p.length - k by omega]
    omega
theorem up_u64 {w : World} {A : Option Addr} {cap : Nat} {p : List Int} (hp : BSrc w A p) (hb : ∀ x ∈ p, (0 : Int) ≤ x ∧ x < 256) (hl : p.length ≤ 8) :
    Calls Try.prog 70 #[.slice A p.length cap] w fun e w' => e = .returned (.int .u64 (upN p : Nat)) ∧ Below w.heap.size w w' := by
  refine (up_raw_u64 hp (by omega)).mono fun e w' h => ?_
  rw [accU_u64_eq p hb hl p.length (Nat.le_refl _), Nat.sub_self, List.drop_zero] at h
  exact h
theorem stepU_u32_eq (a : Nat) (c : Int) (h0 : 0 ≤ c) (h1 : c < 256) (ha : a * 256 + 256 ≤ 4294967296) : stepU_u32 (a : Int) c = ((a * 256 + c.toNat : Nat) : Int) := by
  have p8 : (2 : Int) ^ 8 = 256 := by decide
  have pb : (2 : Int) ^ 32 = 4294967296 := by decide
  have e1 : IntKind.u32.wrap ((a : Int) * 16) = (a : Int) * 16 := wraps_u32 _ (by omega) (by rw [pb]; omega)
  have e2 : IntKind.u32.wrap ((a : Int) * 16 * 16) = ((a * 256 : Nat) : Int) := by rw [wraps_u32 _ (by omega) (by rw [pb]; omega)]; omega
  unfold stepU_u32
  rw [e1, e2]
  rw [wraps_u32 c h0 (by rw [pb]; omega)]
  rw [bits_join .u32 32 (by decide) wraps_u32 8 _ _ (by omega) (by rw [p8]; omega) (by rw [pb]; omega) h0 (by rw [p8]; omega) (by rw [pb]; omega)]
  omega
theorem accU_u32_eq (p : List Int) (hb : ∀ x ∈ p, (0 : Int) ≤ x ∧ x < 256) (hl : p.length ≤ 4) : ∀ k, k ≤ p.length → accU_u32 (backs p k) = (upN (p.drop (p.length - k)) : Int)
  | 0, _ => by rw [Nat.sub_zero, List.drop_length]; rfl
  | k + 1, hk => by
    rw [backs, accU_u32_snoc, accU_u32_eq p hb hl k (by omega)]
    have hj : p.length - 1 - k < p.length := by omega
    have hx := hb (p.getD (p.length - 1 - k) 0) (by rw [List.getD_eq_getElem?_getD, List.getElem?_eq_getElem hj]; exact List.getElem_mem hj)
    have hlt : upN (p.drop (p.length - k)) < 256 ^ k := by
      have := upN_lt (p.drop (p.length - k)) (fun x hx => hb x (List.mem_of_mem_drop hx))
      rwa [List.length_drop, show p.length - (p.length - k) = k by omega] at this
    have hpow : 256 ^ k * 256 ≤ 4294967296 := by
      rw [← Nat.pow_succ]
      exact Nat.le_trans (Nat.pow_le_pow_right (by decide) (by omega : k + 1 ≤ 4)) (by simp)
    generalize 256 ^ k = P at hlt hpow
    have hst := stepU_u32_eq (upN (p.drop (p.length - k))) (p.getD (p.length - 1 - k) 0) hx.1 hx.2 (step_bound hlt hpow)
    rw [hst]
    rw [show p.length - (k + 1) = p.length - 1 - k by omega, upN_append_one p _ hj hb, show p.length - 1 - k + 1 = p.length - k by omega]
    omega
theorem up_u32 {w : World} {A : Option Addr} {cap : Nat} {p : List Int} (hp : BSrc w A p) (hb : ∀ x ∈ p, (0 : Int) ≤ x ∧ x < 256) (hl : p.length ≤ 4) :
    Calls Try.prog 110 #[.slice A p.length cap] w fun e w' => e = .returned (.int .u32 (upN p : Nat)) ∧ Below w.heap.size w w' := by
  refine (up_raw_u32 hp (by omega)).mono fun e w' h => ?_
  rw [accU_u32_eq p hb hl p.length (Nat.le_refl _), Nat.sub_self, List.drop_zero] at h
  exact h
theorem stepU_u16_eq (a : Nat) (c : Int) (h0 : 0 ≤ c) (h1 : c < 256) (ha : a * 256 + 256 ≤ 65536) : stepU_u16 (a : Int) c = ((a * 256 + c.toNat : Nat) : Int) := by
  have p8 : (2 : Int) ^ 8 = 256 := by decide
  have pb : (2 : Int) ^ 16 = 65536 := by decide
  have e1 : IntKind.u16.wrap ((a : Int) * 16) = (a : Int) * 16 := wraps_u16 _ (by omega) (by rw [pb]; omega)
  have e2 : IntKind.u16.wrap ((a : Int) * 16 * 16) = ((a * 256 : Nat) : Int) := by rw [wraps_u16 _ (by omega) (by rw [pb]; omega)]; omega
  unfold stepU_u16
  rw [e1, e2]
  rw [wraps_u16 c h0 (by rw [pb]; omega)]
  rw [bits_join .u16 16 (by decide) wraps_u16 8 _ _ (by omega) (by rw [p8]; omega) (by rw [pb]; omega) h0 (by rw [p8]; omega) (by rw [pb]; omega)]
  omega
theorem accU_u16_eq (p : List Int) (hb : ∀ x ∈ p, (0 : Int) ≤ x ∧ x < 256) (hl : p.length ≤ 2) : ∀ k, k ≤ p.length → accU_u16 (backs p k) = (upN (p.drop (p.length - k)) : Int)
  | 0, _ => by rw [Nat.sub_zero, List.drop_length]; rfl
  | k + 1, hk => by
    rw [backs, accU_u16_snoc, accU_u16_eq p hb hl k (by omega)]
    have hj : p.length - 1 - k < p.length := by omega
    have hx := hb (p.getD (p.length - 1 - k) 0) (by rw [List.getD_eq_getElem?_getD, List.getElem?_eq_getElem hj]; exact List.getElem_mem hj)
    have hlt : upN (p.drop (p.length - k)) < 256 ^ k := by
      have := upN_lt (p.drop (p.length - k)) (fun x hx => hb x (List.mem_of_mem_drop hx))
      rwa [List.length_drop, show p.length - (p.length - k) = k by omega] at this
    have hpow : 256 ^ k * 256 ≤ 65536 := by
      rw [← Nat.pow_succ]
      exact Nat.le_trans (Nat.pow_le_pow_right (by decide) (by omega : k + 1 ≤ 2)) (by simp)
    generalize 256 ^ k = P at hlt hpow
    have hst := stepU_u16_eq (upN (p.drop (p.length - k))) (p.getD (p.length - 1 - k) 0) hx.1 hx.2 (step_bound hlt hpow)
    rw [hst]
    rw [show p.length - (k + 1) = p.length - 1 - k by omega, upN_append_one p _ hj hb, show p.length - 1 - k + 1 = p.length - k by omega]
    omega
theorem up_u16 {w : World} {A : Option Addr} {cap : Nat} {p : List Int} (hp : BSrc w A p) (hb : ∀ x ∈ p, (0 : Int) ≤ x ∧ x < 256) (hl : p.length ≤ 2) :
    Calls Try.prog 109 #[.slice A p.length cap] w fun e w' => e = .returned (.int .u16 (upN p : Nat)) ∧ Below w.heap.size w w' := by
  refine (up_raw_u16 hp (by omega)).mono fun e w' h => ?_
  rw [accU_u16_eq p hb hl p.length (Nat.le_refl _), Nat.sub_self, List.drop_zero] at h
  exact h
theorem stepU_u8_eq (a : Nat) (c : Int) (h0 : 0 ≤ c) (h1 : c < 256) (ha : a * 256 + 256 ≤ 256) : stepU_u8 (a : Int) c = ((a * 256 + c.toNat : Nat) : Int) := by
  have p8 : (2 : Int) ^ 8 = 256 := by decide
  have pb : (2 : Int) ^ 8 = 256 := by decide
  have e1 : IntKind.u8.wrap ((a : Int) * 16) = (a : Int) * 16 := w8 _ (by omega) (by rw [pb]; omega)
  have e2 : IntKind.u8.wrap ((a : Int) * 16 * 16) = ((a * 256 : Nat) : Int) := by rw [w8 _ (by omega) (by rw [pb]; omega)]; omega
  unfold stepU_u8
  rw [e1, e2]
  skip
  rw [bits_join .u8 8 (by decide) w8 8 _ _ (by omega) (by rw [p8]; omega) (by rw [pb]; omega) h0 (by rw [p8]; omega) (by rw [pb]; omega)]
  omega
theorem accU_u8_eq (p : List Int) (hb : ∀ x ∈ p, (0 : Int) ≤ x ∧ x < 256) (hl : p.length ≤ 1) : ∀ k, k ≤ p.length → accU_u8 (backs p k) = (upN (p.drop (p.length - k)) : Int)
  | 0, _ => by rw [Nat.sub_zero, List.drop_length]; rfl
  | k + 1, hk => by
    rw [backs, accU_u8_snoc, accU_u8_eq p hb hl k (by omega)]
    have hj : p.length - 1 - k < p.length := by omega
    have hx := hb (p.getD (p.length - 1 - k) 0) (by rw [List.getD_eq_getElem?_getD, List.getElem?_eq_getElem hj]; exact List.getElem_mem hj)
    have hlt : upN (p.drop (p.length - k)) < 256 ^ k := by
      have := upN_lt (p.drop (p.length - k)) (fun x hx => hb x (List.mem_of_mem_drop hx))
      rwa [List.length_drop, show p.length - (p.length - k) = k by omega] at this
    have hpow : 256 ^ k * 256 ≤ 256 := by
      rw [← Nat.pow_succ]
      exact Nat.le_trans (Nat.pow_le_pow_right (by decide) (by omega : k + 1 ≤ 1)) (by simp)
    generalize 256 ^ k = P at hlt hpow
    have hst := stepU_u8_eq (upN (p.drop (p.length - k))) (p.getD (p.length - 1 - k) 0) hx.1 hx.2 (step_bound hlt hpow)
    rw [hst]
    rw [show p.length - (k + 1) = p.length - 1 - k by omega, upN_append_one p _ hj hb, show p.length - 1 - k + 1 = p.length - k by omega]
    omega
theorem up_u8 {w : World} {A : Option Addr} {cap : Nat} {p : List Int} (hp : BSrc w A p) (hb : ∀ x ∈ p, (0 : Int) ≤ x ∧ x < 256) (hl : p.length ≤ 1) :
    Calls Try.prog 108 #[.slice A p.length cap] w fun e w' => e = .returned (.int .u8 (upN p : Nat)) ∧ Below w.heap.size w w' := by
  refine (up_raw_u8 hp (by omega)).mono fun e w' h => ?_
  rw [accU_u8_eq p hb hl p.length (Nat.le_refl _), Nat.sub_self, List.drop_zero] at h
  exact h
end Go.Proofs.Ytibelfljlhcibaa
