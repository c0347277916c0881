/- The elements of the seat's slices. -/
import Derived.Test.YtmichnnkkpgpmaaS2
import Derived.Test.YtmichnnkkpgpmaaY
namespace Go.Proofs.Ytmichnnkkpgpmaa
set_option linter.unusedVariables false
set_option linter.unusedSimpArgs false
open Go.RowKit Go.Deep
abbrev Sl : Type := Option Addr × Nat × Nat
def encSl (x : Sl) : List Value := [.slice x.1 x.2.1 x.2.2]
def encI (x : Int) : List Value := [.int .i64 x]
theorem elB : ElT Try.prog bc 25 5 1 1 (.int .u8 0) := ⟨Try.underlying25, infoB, rfl, by decide, bc_len, bc_one⟩
theorem elSl : ElT Try.prog encSl 23 25 1 24 (.slice none 0 0) := ⟨Try.underlying23, by kernel_rfl, rfl, by decide, fun _ => rfl, fun x u hu => by simp [encSl] at hu; subst hu; rfl⟩
theorem elI : ElT Try.prog encI 22 3 1 8 (.int .i64 0) := ⟨Try.underlying22, by kernel_rfl, rfl, by decide, fun _ => rfl, fun x u hu => by simp [encI] at hu; subst hu; rfl⟩
def i64R : Rd Int := Rd.int .i64
theorem opens_ints (W : World) : Opens Try.prog W 22 (Rd.slice i64R 8) := opens_slice Try.underlying22 (opens_int Try.underlying3) (by kernel_rfl) (by decide) (by kernel_rfl)
def u8R : Rd Int := Rd.int .u8
theorem opens_bytes (W : World) : Opens Try.prog W 25 (Rd.slice u8R 1) := opens_slice Try.underlying25 (opens_int Try.underlying5) (by kernel_rfl) (by decide) (by kernel_rfl)
theorem opens_lists (W : World) : Opens Try.prog W 23 (Rd.slice (Rd.slice u8R 1) 24) := opens_slice Try.underlying23 (opens_bytes W) (by kernel_rfl) (by decide) (by kernel_rfl)
/-- An int that came in. -/
theorem int_at {k : IntKind} {w : World} {A : Option Addr} {xs : List Int} (h : (Rd.int k).elems w A xs) {i : Nat} {x : Int} (hx : xs[i]? = some x) : ∃ b o, A = some ⟨b, o, none⟩ ∧ w.cell? ⟨b, o + i, none⟩ = some (.int k x) ∧ (Lit.int k x).wf = true := by
  obtain ⟨b, o, cs, hA, ⟨rfl, hw⟩, hc⟩ := h i x hx
  refine ⟨b, o, hA, ?_, hw⟩
  have := hc 0 _ rfl
  simpa [Rd.int, Rd.lit] using this
/-- The bytes that came in. -/
theorem bytes_at {w : World} {A : Option Addr} {xs : List Int} (h : u8R.elems w A xs) (hne : xs ≠ []) : ∃ b o, A = some ⟨b, o, none⟩ ∧ BsAt w b o xs := by
  obtain ⟨x, t, rfl⟩ := List.exists_cons_of_ne_nil hne
  obtain ⟨b, o, hA, _, _⟩ := int_at h (i := 0) rfl
  refine ⟨b, o, hA, fun j y hy => ?_⟩
  obtain ⟨b', o', hA', hc, _⟩ := int_at h (i := j) hy
  rw [hA] at hA'
  injection hA' with hA'
  injection hA' with h1 h2
  subst h1 h2
  exact hc
theorem BsAt.cells {w : World} {b o : Nat} {xs : List Int} (h : BsAt w b o xs) : ∀ (k : Nat) y, xs[k]? = some y → ∀ j v, (bc y)[j]? = some v → w.cell? ⟨b, o + k * 1 + j, none⟩ = some v := by
  intro k y hy j v hv
  rcases j with _ | j
  · simp [bc] at hv; subst hv
    simpa using h k y hy
  · simp [bc] at hv
/-- A list of bytes that came in, by its place. -/
theorem list_at {w : World} {A : Option Addr} {ls : List (List Int)} (h : (Rd.slice u8R 1).elems w A ls) {i : Nat} {l : List Int} (hl : ls[i]? = some l) :
    ∃ b o B c, A = some ⟨b, o, none⟩ ∧ w.cell? ⟨b, o + i, none⟩ = some (.slice B l.length c) ∧ l.length ≤ c ∧ c ≤ maxLen ∧ l.length ≤ reach ∧ (B = none → c = 0) ∧ u8R.elems w B l := by
  obtain ⟨b, o, cs, hA, ⟨B, c, rfl, h1, h2, h3, h4, h5⟩, hc⟩ := h i l hl
  refine ⟨b, o, B, c, hA, ?_, h1, h2, by simpa using h3, h4, h5⟩
  have := hc 0 _ rfl
  simpa [Rd.slice] using this
end Go.Proofs.Ytmichnnkkpgpmaa
