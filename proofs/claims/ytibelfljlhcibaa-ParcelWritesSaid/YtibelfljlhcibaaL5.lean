/- What was lent, as bytes in the blocks that came. -/
import Derived.Test.YtibelfljlhcibaaL1
namespace Go.Proofs.Ytibelfljlhcibaa
set_option linter.unusedVariables false
set_option linter.unusedSimpArgs false
open Go.RowKit Go.Deep Go.Proofs.YtibelfljlhcibaaW.PrintLast

theorem LentB.len {w : World} {N : Nat} {x : SlB} {p : List Int} (h : LentB w N x p) : x.2.1 = p.length := by
  obtain ⟨g, h1, _⟩ := h
  rw [h1]
/-- What was lent, as bytes in the blocks that came. -/
theorem LentB.newIn {w : World} {N : Nat} {x : SlB} {p : List Int} (h : LentB w N x p) : NewIn w N w.heap.size x p := h.new (Nat.le_refl _) fun g hg => by
  obtain ⟨g', h1, _, h3⟩ := h
  rw [h1] at hg
  injection hg with hg; injection hg with hg; subst hg
  exact h3.lt
theorem NewIn.len {w : World} {lo hi : Nat} {x : SlB} {p : List Int} (h : NewIn w lo hi x p) : x.2.1 = p.length := h.1
end Go.Proofs.Ytibelfljlhcibaa
