/- Which blocks a call may turn; rows that lie in such blocks. -/
import Derived.Test.YtibelfljlhcibaaS2
namespace Go.Proofs.Ytibelfljlhcibaa
set_option linter.unusedVariables false
set_option linter.unusedSimpArgs false
open Go.RowKit Go.Deep

/-- F's blocks alone have turned; new ones may have come. -/
structure Fr (F : Nat → Prop) (w w' : World) : Prop where
  os : w'.os = w.os
  tape : w'.tape = w.tape
  output : w'.output = w.output
  size : w.heap.size ≤ w'.heap.size
  block : ∀ b, b < w.heap.size → ¬ F b → w'.heap[b]? = w.heap[b]?
/-- F and what has come. -/
def Gr (F : Nat → Prop) (w w' : World) (b : Nat) : Prop := F b ∨ (w.heap.size ≤ b ∧ b < w'.heap.size)
namespace Fr
variable {F G : Nat → Prop} {a b c w w' : World}
theorem refl (F : Nat → Prop) (w : World) : Fr F w w := ⟨rfl, rfl, rfl, Nat.le_refl _, fun _ _ _ => rfl⟩
theorem trans (h : Fr F a b) (h' : Fr G b c) (hG : ∀ x, x < a.heap.size → G x → F x) : Fr F a c :=
  ⟨h'.os.trans h.os, h'.tape.trans h.tape, h'.output.trans h.output, Nat.le_trans h.size h'.size, fun x hx hF => (h'.block x (Nat.lt_of_lt_of_le hx h.size) (fun hg => hF (hG x hx hg))).trans (h.block x hx hF)⟩
theorem mono (h : Fr F a b) (hF : ∀ x, F x → G x) : Fr G a b := ⟨h.os, h.tape, h.output, h.size, fun x hx hg => h.block x hx (fun hf => hg (hF x hf))⟩
theorem alloc (F : Nat → Prop) (w : World) (o : Obj) : Fr F w (w.alloc o) := ⟨rfl, rfl, rfl, by simp, fun x hx _ => Below.heap_alloc _ _ _ hx⟩
theorem drew (F : Nat → Prop) (w : World) : Fr F w w.drew := ⟨rfl, rfl, rfl, Nat.le_refl _, fun _ _ _ => rfl⟩
theorem set {p : Addr} (w : World) (hF : F p.block) (v : Value) : Fr F w (w.setCell p v) := ⟨rfl, rfl, rfl, by simp [World.setCell], fun x _ hx => Below.heap_setCell _ _ _ _ (by rintro rfl; exact hx hF)⟩
theorem below (F : Nat → Prop) (h : Below w.heap.size w w') : Fr F w w' := ⟨h.os, h.tape, h.output, h.size, fun x hx _ => h.block x hx⟩
theorem grown {g : Nat} (h : w.grownBy w' (some g)) (hF : F g) : Fr F w w' := ⟨h.os, h.tape, h.output, h.size, fun x hx hf => h.block x hx (by intro e; injection e with e; subst e; exact hf hF)⟩
theorem grown0 (F : Nat → Prop) (h : w.grownBy w' none) : Fr F w w' := ⟨h.os, h.tape, h.output, h.size, fun x hx _ => h.block x hx (by simp)⟩
theorem toBelow {n : Nat} (h : Fr F w w') (hF : ∀ x, F x → n ≤ x) (hn : n ≤ w.heap.size) : Below n w w' := ⟨h.os, h.tape, h.output, h.size, fun x hx => h.block x (by omega) (fun hf => by have := hF x hf; omega)⟩
theorem toBelow0 {F : Nat → Prop} (h : Fr F w w') (hF : ∀ x, ¬ F x) : Below w.heap.size w w' := ⟨h.os, h.tape, h.output, h.size, fun x hx => h.block x hx (hF x)⟩
/-- Behind a part that turned F's blocks and what had come. -/
theorem next (h : Fr F a b) (h' : Fr (Gr F a b) b c) : Fr F a c := h.trans h' (fun x hx hg => by rcases hg with hg | hg; exact hg; omega)
end Fr
theorem Gr.here {F : Nat → Prop} {w w' : World} {b : Nat} (h : F b) : Gr F w w' b := Or.inl h
theorem Gr.new {F : Nat → Prop} {w w' : World} {b : Nat} (h : w.heap.size ≤ b) (h' : b < w'.heap.size) : Gr F w w' b := Or.inr ⟨h, h'⟩
theorem Gr.two {F : Nat → Prop} {a b c : World} (hab : a.heap.size ≤ b.heap.size) (hbc : b.heap.size ≤ c.heap.size) (x : Nat) (h : Gr (Gr F a b) b c x) : Gr F a c x := by
  rcases h with (h | h) | h
  · exact Or.inl h
  · exact Or.inr ⟨h.1, by omega⟩
  · exact Or.inr ⟨by omega, h.2⟩
theorem Gr.le {F : Nat → Prop} {a b c : World} (hbc : b.heap.size ≤ c.heap.size) (x : Nat) (h : Gr F a b x) : Gr F a c x := by
  rcases h with h | h
  · exact Or.inl h
  · exact Or.inr ⟨h.1, by omega⟩
/-- nil, or a slice that begins a block of F's. -/
def RowF {α : Type} (enc : α → List Value) (e : TypeId) (sz : Nat) (w : World) (F : Nat → Prop) (A : Option Addr) (cap : Nat) (xs : List α) : Prop :=
  (A = none ∧ cap = 0 ∧ xs = []) ∨ ∃ g, A = some ⟨g, 0, none⟩ ∧ F g ∧ Own enc e sz w g cap xs
section
variable {α : Type} {P : Program} {enc : α → List Value} {t e : TypeId} {sz bytes : Nat} {z : Value} {w w' w0 : World} {F G : Nat → Prop} {cap : Nat} {A : Option Addr} {xs ys : List α}
theorem RowF.nil : RowF enc e sz w F none 0 [] := Or.inl ⟨rfl, rfl, rfl⟩
theorem RowF.mono (h : RowF enc e sz w F A cap xs) (hF : ∀ x, F x → G x) : RowF enc e sz w G A cap xs := by
  rcases h with h | ⟨g, h1, h2, h3⟩
  · exact Or.inl h
  · exact Or.inr ⟨g, h1, hF g h2, h3⟩
theorem RowF.keeps (h : RowF enc e sz w F A cap xs) (hk : KeepT e w w') : RowF enc e sz w' F A cap xs := by
  rcases h with h | ⟨g, h1, h2, h3⟩
  · exact Or.inl h
  · obtain ⟨cur, hb, hr⟩ := h3.blk
    exact Or.inr ⟨g, h1, h2, h3.le, h3.max, cur, hk _ _ hb, hr⟩
theorem RowF.same (h : RowF enc e sz w F A cap xs) (hk : ∀ b, F b → b < w.heap.size → w'.heap[b]? = w.heap[b]?) : RowF enc e sz w' F A cap xs := by
  rcases h with h | ⟨g, h1, h2, h3⟩
  · exact Or.inl h
  · exact Or.inr ⟨g, h1, h2, h3.moved (hk g h2 h3.lt)⟩
theorem RowF.le (h : RowF enc e sz w F A cap xs) : xs.length ≤ cap := by
  rcases h with ⟨_, _, rfl⟩ | ⟨g, h1, _, h3⟩
  · simp
  · exact h3.le
theorem RowF.max (h : RowF enc e sz w F A cap xs) : cap ≤ maxLen := by
  rcases h with ⟨_, rfl, _⟩ | ⟨g, h1, _, h3⟩
  · simp [maxLen]
  · exact h3.max
theorem RowF.cell (h : RowF enc e sz w F A cap xs) {i : Nat} {x : α} (hx : xs[i]? = some x) {j : Nat} {v : Value} (hv : (enc x)[j]? = some v) : ∃ g, A = some ⟨g, 0, none⟩ ∧ w.cell? ⟨g, i * sz + j, none⟩ = some v := by
  rcases h with ⟨_, _, rfl⟩ | ⟨g, h1, _, h3⟩
  · simp at hx
  · exact ⟨g, h1, h3.cell hx hv⟩
theorem RowF.take (h : RowF enc e sz w F A cap xs) (n : Nat) : RowF enc e sz w F A cap (xs.take n) := by
  rcases h with ⟨h1, h2, rfl⟩ | ⟨g, h1, h2, h3⟩
  · exact Or.inl ⟨h1, h2, by simp⟩
  · exact Or.inr ⟨g, h1, h2, h3.take n⟩
theorem RowF.some_ (h : RowF enc e sz w F A cap xs) (hne : xs ≠ []) : ∃ g, A = some ⟨g, 0, none⟩ ∧ F g ∧ Own enc e sz w g cap xs := by
  rcases h with ⟨_, _, h⟩ | h
  · exact absurd h hne
  · exact h
/-- append of whatever lies there. -/
theorem RowF.append (E : ElT P enc t e sz bytes z) (h : RowF enc e sz w F A cap xs) (ty : TypeId) (B : Option Addr) (c : Nat)
    (hys : ys ≠ [] → ∃ g O, B = some ⟨g, O, none⟩ ∧ ∀ (k : Nat) y, ys[k]? = some y → ∀ j v, (enc y)[j]? = some v → w.cell? ⟨g, O + k * sz + j, none⟩ = some v)
    (h63 : xs.length + ys.length ≤ maxLen) (hbytes : (xs.length + ys.length) * bytes ≤ 140737488355328) :
    ∃ A' cap' w', (Builtin.append_ #[t, t] ty #[.slice A xs.length cap, .slice B ys.length c]).run P w = .ok (.slice A' (xs.length + ys.length) cap') w' ∧
      RowF enc e sz w' (Gr F w w') A' cap' (xs ++ ys) ∧ Fr F w w' ∧ (∀ T, T ≠ e → KeepT T w w') := by
  rcases h with ⟨rfl, rfl, rfl⟩ | ⟨g, rfl, hg, h⟩
  · obtain ⟨A', cap', w', hr, h2, h3, h4, h5⟩ := GRow.append (N := w.heap.size) (w0 := w) E (GRow.nil (w := w)) ty B c hys (Below.refl _ _) (Nat.le_refl _) h63 hbytes
    refine ⟨A', cap', w', hr, ?_, Fr.below F h3, h4⟩
    rcases h2 with h2 | ⟨g, g1, g2, g3⟩
    · exact Or.inl h2
    · exact Or.inr ⟨g, g1, Gr.new g2 g3.lt, g3⟩
  · have info := E.info
    cases hi : P.info? e with
    | none => rw [hi] at info; cases info
    | some i =>
      rw [hi] at info
      simp only [Option.map_some, Option.some.injEq, Prod.mk.injEq] at info
      obtain ⟨i1, i2, i3⟩ := info
      obtain ⟨g', cap', w', hr, hown, hgr, hat⟩ := own_append (P := P) t ty E.ht hi i1 i2 i3 E.zs E.pos E.len E.one h ys B c hys h63 hbytes
      obtain ⟨cur, hcur, _⟩ := h.blk
      refine ⟨_, cap', w', hr, Or.inr ⟨g', rfl, ?_, hown⟩, Fr.grown hgr hg, fun T hT => KeepT.grown hgr hcur hT⟩
      rcases hat with rfl | rfl
      · exact Gr.here hg
      · exact Gr.new (Nat.le_refl _) hown.lt
end
end Go.Proofs.Ytibelfljlhcibaa
