/- Bytes below a bound; bytes in new blocks (the same words as in RW2, RW3: for seats without records). -/
import Derived.Test.YtibelfljlhcibaaPR4
namespace Go.Proofs.Ytibelfljlhcibaa
set_option linter.unusedVariables false
set_option linter.unusedSimpArgs false
open Go.RowKit Go.Deep

/-- Bytes that lie in blocks below N. -/
def SlAt (w : World) (N : Nat) (x : SlB) (p : List Int) : Prop := x.2.1 = p.length ∧ BSrc w x.1 p ∧ (p ≠ [] → ∀ g o, x.1 = some ⟨g, o, none⟩ → g < N)
section
variable {w w' : World} {F : Nat → Prop} {N M : Nat} {x : SlB} {p : List Int}
theorem SlAt.src (h : SlAt w N x p) : BSrc w x.1 p := h.2.1
theorem SlAt.fr (h : SlAt w N x p) (hf : Fr F w w') (hF : ∀ b, F b → N ≤ b) : SlAt w' N x p := by
  refine ⟨h.1, fun hne => ?_, h.2.2⟩
  obtain ⟨g, o, h1, h2⟩ := h.2.1 hne
  have hl := h.2.2 hne g o h1
  obtain ⟨y, t, rfl⟩ := List.exists_cons_of_ne_nil hne
  exact ⟨g, o, h1, h2.moved (hf.block g (World.block_lt_of_cell? _ _ (h2 0 y rfl)) (fun hb => by have := hF g hb; omega))⟩
theorem SlAt.below (h : SlAt w N x p) (hb : Below w.heap.size w w') : SlAt w' N x p := ⟨h.1, h.2.1.below hb, h.2.2⟩
theorem SlAt.mono (h : SlAt w N x p) (hM : N ≤ M) : SlAt w M x p := ⟨h.1, h.2.1, fun hne g o e => Nat.lt_of_lt_of_le (h.2.2 hne g o e) hM⟩
theorem SlAt.nil (w : World) (N : Nat) : SlAt w N (none, 0, 0) [] := ⟨rfl, fun h => absurd rfl h, fun h => absurd rfl h⟩
/-- Bytes that lie somewhere lie below the heap's size. -/
theorem SlAt.ofSrc (h : BSrc w x.1 p) (hl : x.2.1 = p.length) (hN : w.heap.size ≤ N) : SlAt w N x p := ⟨hl, h, fun hne g o e => by
  obtain ⟨g', o', h1, h2⟩ := h hne
  rw [h1] at e; injection e with e; injection e with e1 _; subst e1
  obtain ⟨y, t, rfl⟩ := List.exists_cons_of_ne_nil hne
  exact Nat.lt_of_lt_of_le (World.block_lt_of_cell? _ _ (h2 0 y rfl)) hN⟩
end
/-- Bytes in a block of one's own from lo to below hi, or nil. -/
def NewIn (w : World) (lo hi : Nat) (x : SlB) (p : List Int) : Prop := x.2.1 = p.length ∧ RowF bc 5 1 w (fun b => lo ≤ b ∧ b < hi) x.1 x.2.2 p
def zSl : SlB := (none, 0, 0)
section
variable {w w' : World} {F : Nat → Prop} {N M lo hi : Nat} {x : SlB} {p : List Int}
theorem NewB.in_ (h : NewB N w p x) : NewIn w N w.heap.size x p := by
  refine ⟨h.1, ?_⟩
  rcases h.2 with h2 | ⟨g, h1, h2, h3⟩
  · exact Or.inl h2
  · exact Or.inr ⟨g, h1, ⟨h2, h3.lt⟩, h3⟩
theorem NewIn.nil (w : World) (lo hi : Nat) : NewIn w lo hi zSl [] := ⟨rfl, RowF.nil⟩
theorem NewIn.mono (h : NewIn w lo hi x p) (h1 : N ≤ lo) (h2 : hi ≤ M) : NewIn w N M x p := ⟨h.1, h.2.mono fun b hb => ⟨Nat.le_trans h1 hb.1, Nat.lt_of_lt_of_le hb.2 h2⟩⟩
theorem NewIn.same (h : NewIn w lo hi x p) (hk : ∀ b, lo ≤ b → b < hi → b < w.heap.size → w'.heap[b]? = w.heap[b]?) : NewIn w' lo hi x p := ⟨h.1, h.2.same fun b hb hl => hk b hb.1 hb.2 hl⟩
theorem NewIn.slAt (h : NewIn w lo hi x p) : SlAt w hi x p := by
  refine ⟨h.1, BSrc.ofRow h.2, fun hne g o e => ?_⟩
  obtain ⟨g', h1, h2, _⟩ := h.2.some_ hne
  rw [h1] at e; injection e with e; injection e with e1 _; subst e1
  exact h2.2
theorem NewIn.keep (h : NewIn w lo hi x p) (hf : Fr F w w') (hF : ∀ b, F b → b < lo) : NewIn w' lo hi x p := h.same fun b hb _ hl => hf.block b hl fun hb' => by have := hF b hb'; omega
end
end Go.Proofs.Ytibelfljlhcibaa
