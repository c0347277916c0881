/- How bytes, and lists of bytes, read that came in. -/
import Derived.Test.YtibelfljlhcibaaR
import Derived.Test.YtibelfljlhcibaaPR4
namespace Go.Proofs.Ytibelfljlhcibaa
set_option linter.unusedVariables false
set_option linter.unusedSimpArgs false
open Go.ChangeShapes Go.WideShapes Go.ChangeAt Go.RowKit Go.Deep

abbrev RdBs : Rd (List Int) := Rd.slice (Rd.int .u8) 1
abbrev RdBss : Rd (List (List Int)) := Rd.slice RdBs 24
abbrev i64R : Rd Int := Rd.int .i64
abbrev u64R : Rd Int := Rd.int .u64
theorem opens_i64 (W : World) : Opens Try.prog W 3 i64R := opens_int Try.underlying3
theorem opens_u64 (W : World) : Opens Try.prog W 22 u64R := opens_int Try.underlying22
theorem opens_bs (W : World) : Opens Try.prog W 23 RdBs := opens_slice Try.underlying23 (opens_int Try.underlying5) (by kernel_rfl) (by decide) (by kernel_rfl)
theorem opens_bss (W : World) : Opens Try.prog W 45 RdBss := opens_slice Try.underlying45 (opens_bs W) (by kernel_rfl) (by decide) (by kernel_rfl)
theorem opens_is (W : World) : Opens Try.prog W 58 (Rd.slice i64R 8) := opens_slice Try.underlying58 (opens_int Try.underlying3) (by kernel_rfl) (by decide) (by kernel_rfl)
theorem bs_elems {w : World} {A : Option Addr} {xs : List Int} (h : (Rd.int .u8).elems w A xs) : Byt xs ∧ BSrc w A xs := by
  have h256 : ∀ x : Int, (Lit.int .u8 x).wf = true → 0 ≤ x ∧ x < 256 := fun x hx => by
    simp only [Lit.wf, Bool.and_eq_true, decide_eq_true_eq] at hx
    have h1 : IntKind.u8.min = 0 := by decide
    have h2 : IntKind.u8.max = 255 := by decide
    omega
  refine ⟨fun x hx => ?_, fun hne => ?_⟩
  · obtain ⟨i, hi⟩ := List.getElem?_of_mem hx
    obtain ⟨b, o, cs, _, ⟨_, hw⟩, _⟩ := h i x hi
    exact h256 x hw
  · obtain ⟨y, t, rfl⟩ := List.exists_cons_of_ne_nil hne
    obtain ⟨b, o, cs, hA, _, _⟩ := h 0 y rfl
    refine ⟨b, o, hA, fun j x hx => ?_⟩
    obtain ⟨b', o', cs', hA', ⟨rfl, _⟩, hc⟩ := h j x hx
    rw [hA] at hA'
    injection hA' with hA'; injection hA' with e1 e2; subst e1; subst e2
    have := hc 0 _ rfl
    have e : (Rd.int IntKind.u8).sz = 1 := rfl
    rw [e] at this
    simpa using this
def In64 (x : Int) : Prop := -9223372036854775808 ≤ x ∧ x ≤ 9223372036854775807
theorem in64_wf {x : Int} (h : (Lit.int .i64 x).wf = true) : In64 x := by
  simp only [Lit.wf, Bool.and_eq_true, decide_eq_true_eq] at h
  have h1 : IntKind.i64.min = -9223372036854775808 := by decide
  have h2 : IntKind.i64.max = 9223372036854775807 := by decide
  rw [h1, h2] at h
  exact h
theorem u64_wf {x : Int} (h : (Lit.int .u64 x).wf = true) : ∃ n : Nat, x = n ∧ n < 18446744073709551616 := by
  simp only [Lit.wf, Bool.and_eq_true, decide_eq_true_eq] at h
  have h1 : IntKind.u64.min = 0 := by decide
  have h2 : IntKind.u64.max = 18446744073709551615 := by decide
  exact ⟨x.toNat, by omega, by omega⟩
/-- A list of bytes that came in, by its place. -/
theorem bss_at {w : World} {A : Option Addr} {ls : List (List Int)} (h : RdBs.elems w A ls) {i : Nat} {l : List Int} (hl : ls[i]? = some l) :
    ∃ b o B c, A = some ⟨b, o, none⟩ ∧ w.cell? ⟨b, o + i, none⟩ = some (.slice B l.length c) ∧ l.length ≤ reach ∧ Byt l ∧ BSrc w B l := by
  obtain ⟨b, o, cs, hA, ⟨B, c, rfl, _, _, h3, _, h5⟩, hc⟩ := h i l hl
  obtain ⟨h6, h7⟩ := bs_elems h5
  refine ⟨b, o, B, c, hA, ?_, by simpa using h3, h6, h7⟩
  have := hc 0 _ rfl
  simpa [Rd.slice] using this
/-- An int that came in. -/
theorem i64_at {w : World} {A : Option Addr} {xs : List Int} (h : i64R.elems w A xs) {i : Nat} {x : Int} (hx : xs[i]? = some x) : ∃ b o, A = some ⟨b, o, none⟩ ∧ w.cell? ⟨b, o + i, none⟩ = some (.int .i64 x) ∧ In64 x := by
  obtain ⟨b, o, cs, hA, ⟨rfl, hw⟩, hc⟩ := h i x hx
  refine ⟨b, o, hA, ?_, in64_wf hw⟩
  have := hc 0 _ rfl
  simpa [Rd.int, Rd.lit] using this
end Go.Proofs.Ytibelfljlhcibaa
