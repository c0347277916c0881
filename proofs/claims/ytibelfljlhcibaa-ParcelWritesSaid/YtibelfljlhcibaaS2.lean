/- Slices that a call owns, nil among them: append of one element; what blocks of a type keep. -/
import Derived.Test.YtibelfljlhcibaaS
namespace Go.Proofs.Ytibelfljlhcibaa
set_option linter.unusedVariables false
set_option linter.unusedSimpArgs false
open Go.RowKit Go.Deep

theorem cell_same {w w' : World} {k o : Nat} {v : Value} (h : w.cell? ⟨k, o, none⟩ = some v) (hb : w'.heap[k]? = w.heap[k]?) : w'.cell? ⟨k, o, none⟩ = some v := by
  rw [World.cell?_of_block (w := w) hb]; exact h
/-- All blocks of type T lie as they lay. -/
def KeepT (T : TypeId) (w w' : World) : Prop := ∀ (b : Nat) (cs : Array Value), w.heap[b]? = some (.cells cs T (0, 0)) → w'.heap[b]? = some (.cells cs T (0, 0))
theorem KeepT.refl (T : TypeId) (w : World) : KeepT T w w := fun _ _ h => h
theorem KeepT.trans {T : TypeId} {a b c : World} (h : KeepT T a b) (h' : KeepT T b c) : KeepT T a c := fun k cs hk => h' k cs (h k cs hk)
theorem KeepT.alloc (T : TypeId) (w : World) (o : Obj) : KeepT T w (w.alloc o) := fun _ _ h => blk_alloc h o
theorem KeepT.drew (T : TypeId) (w : World) : KeepT T w w.drew := fun _ _ h => h
theorem KeepT.below {T : TypeId} {w w' : World} (h : Below w.heap.size w w') : KeepT T w w' := fun _ _ hk => blk_below hk h
theorem KeepT.setCell {T e : TypeId} {w : World} {g : Nat} {cur : Array Value} (hg : w.heap[g]? = some (.cells cur e (0, 0))) (hne : T ≠ e) (o : Nat) (v : Value) : KeepT T w (w.setCell ⟨g, o, none⟩ v) := by
  intro b cs hb
  have : b ≠ g := by rintro rfl; rw [hg] at hb; injection hb with hb; injection hb with _ hb; exact hne hb.symm
  rw [Below.heap_setCell _ _ _ _ (by simpa using this)]; exact hb
theorem KeepT.grown {T e : TypeId} {w w' : World} {g : Nat} {cur : Array Value} (hgr : w.grownBy w' (some g)) (hg : w.heap[g]? = some (.cells cur e (0, 0))) (hne : T ≠ e) : KeepT T w w' := by
  intro b cs hb
  have : b ≠ g := by rintro rfl; rw [hg] at hb; injection hb with hb; injection hb with _ hb; exact hne hb.symm
  rw [hgr.block b (blk_lt hb) (by simpa using this)]; exact hb
theorem KeepT.grown0 {T : TypeId} {w w' : World} (hgr : w.grownBy w' none) : KeepT T w w' := fun b cs hb => by
  rw [hgr.block b (blk_lt hb) (by simp)]; exact hb
/-- The element type of slices, as the program has it. -/
structure ElT {α : Type} (P : Program) (enc : α → List Value) (t e : TypeId) (sz bytes : Nat) (z : Value) : Prop where
  ht : P.underlying t = some (.slice e)
  info : (P.info? e).map (fun i => (i.zero, i.size, i.bytes)) = some (some z, sz, bytes)
  zs : z.cells.size = sz
  pos : 0 < sz
  len : ∀ x, (enc x).length = sz
  one : ∀ x, ∀ u ∈ enc x, u.oneCell' = true
section
variable {α : Type} {P : Program} {enc : α → List Value} {t e : TypeId} {sz bytes : Nat} {z : Value} {w w0 : World} {N cap : Nat} {A : Option Addr} {xs ys : List α}
/-- nil, or a slice of one's own that begins a block. -/
def GRow (enc : α → List Value) (e : TypeId) (sz : Nat) (w : World) (N : Nat) (A : Option Addr) (cap : Nat) (xs : List α) : Prop :=
  (A = none ∧ cap = 0 ∧ xs = []) ∨ ∃ g, A = some ⟨g, 0, none⟩ ∧ N ≤ g ∧ Own enc e sz w g cap xs
theorem GRow.nil : GRow enc e sz w N none 0 [] := Or.inl ⟨rfl, rfl, rfl⟩
theorem GRow.keeps {w' : World} (h : GRow enc e sz w N A cap xs) (hk : KeepT e w w') : GRow enc e sz w' N A cap xs := by
  rcases h with h | ⟨g, h1, h2, h3⟩
  · exact Or.inl h
  · obtain ⟨cur, hb, hr⟩ := h3.blk
    exact Or.inr ⟨g, h1, h2, h3.le, h3.max, cur, hk _ _ hb, hr⟩
theorem GRow.cell (h : GRow enc e sz w N A cap xs) {i : Nat} {x : α} (hx : xs[i]? = some x) {j : Nat} {v : Value} (hv : (enc x)[j]? = some v) : ∃ g, A = some ⟨g, 0, none⟩ ∧ w.cell? ⟨g, i * sz + j, none⟩ = some v := by
  rcases h with ⟨_, _, rfl⟩ | ⟨g, h1, _, h3⟩
  · simp at hx
  · exact ⟨g, h1, h3.cell hx hv⟩
theorem GRow.cell' {g : Nat} (h : GRow enc e sz w N (some ⟨g, 0, none⟩) cap xs) {i : Nat} {x : α} (hx : xs[i]? = some x) {j : Nat} {v : Value} (hv : (enc x)[j]? = some v) : w.cell? ⟨g, i * sz + j, none⟩ = some v := by
  obtain ⟨g', h1, h2⟩ := h.cell hx hv
  injection h1 with h1; injection h1 with h1; subst h1
  exact h2
theorem GRow.some_ (h : GRow enc e sz w N A cap xs) (hne : xs ≠ []) : ∃ g, A = some ⟨g, 0, none⟩ := by
  rcases h with ⟨_, _, h⟩ | ⟨g, h, _⟩
  · exact absurd h hne
  · exact ⟨g, h⟩
theorem GRow.le (h : GRow enc e sz w N A cap xs) : xs.length ≤ cap := by
  rcases h with ⟨_, _, rfl⟩ | ⟨g, h1, _, h3⟩
  · simp
  · exact h3.le
/-- append of whatever lies there: nothing, or elements at an address. -/
theorem GRow.append (E : ElT P enc t e sz bytes z) (h : GRow enc e sz w N A cap xs) (ty : TypeId) (B : Option Addr) (c : Nat)
    (hys : ys ≠ [] → ∃ g O, B = some ⟨g, O, none⟩ ∧ ∀ (k : Nat) y, ys[k]? = some y → ∀ j v, (enc y)[j]? = some v → w.cell? ⟨g, O + k * sz + j, none⟩ = some v)
    (hB : Below N w0 w) (hN : N ≤ w.heap.size) (h63 : xs.length + ys.length ≤ maxLen) (hbytes : (xs.length + ys.length) * bytes ≤ 140737488355328) :
    ∃ A' cap' w', (Builtin.append_ #[t, t] ty #[.slice A xs.length cap, .slice B ys.length c]).run P w = .ok (.slice A' (xs.length + ys.length) cap') w' ∧
      GRow enc e sz w' N A' cap' (xs ++ ys) ∧ Below N w0 w' ∧ (∀ T, T ≠ e → KeepT T w w') ∧ (∀ b cs, A ≠ some ⟨b, 0, none⟩ → w.heap[b]? = some cs → w'.heap[b]? = some cs) := by
  have info := E.info
  cases hi : P.info? e with
  | none => rw [hi] at info; cases info
  | some i =>
    rw [hi] at info
    simp only [Option.map_some, Option.some.injEq, Prod.mk.injEq] at info
    obtain ⟨i1, i2, i3⟩ := info
    rcases h with ⟨rfl, rfl, rfl⟩ | ⟨g, rfl, hg, h⟩
    · by_cases hne : ys = []
      · subst hne
        have hsrc : Src P i.size t (.slice B 0 c) 0 [] w := by
          cases B with
          | none => exact Src.ofNil w E.ht c
          | some a => exact Src.ofSlice w E.ht a 0 c [] (by simp) (by simp) (by simp)
        refine ⟨none, 0, w, ?_, Or.inl ⟨rfl, rfl, rfl⟩, hB, fun T _ => KeepT.refl T w, fun _ _ _ h => h⟩
        simpa using run_append_nothing (P := P) w t t ty e i E.ht hi none 0 0 (Nat.le_refl _) (.slice B 0 c) hsrc
      · obtain ⟨G, O, rfl, hcells⟩ := hys hne
        have hpos : 0 < ys.length := List.length_pos_iff.2 hne
        obtain ⟨g', cap', w', hr, hown, hgr, hat, hlt⟩ := run_append_lies (P := P) w t ty 0 e i z sz bytes E.ht hi i1 i2 i3 E.zs E.pos (.slice none 0 0) 0 [] (World.ownsRow_nil w 0 _ sz)
          ⟨G, O, none⟩ ys.length c (ys.flatMap enc) (flat_len E.len ys) (fun j u hu => by
            rw [flat_get E.pos E.len] at hu
            rw [Addr.add_mid]
            cases hy : ys[j / sz]? with
            | none => rw [hy] at hu; cases hu
            | some y =>
              rw [hy, Option.bind_some] at hu
              have := hcells (j / sz) y hy (j % sz) u hu
              have hk := Nat.div_add_mod j sz
              rw [show O + j / sz * sz + j % sz = O + j by rw [Nat.mul_comm (j / sz)]; omega] at this
              exact this) (fun u hu => by
            obtain ⟨y, _, hy⟩ := List.mem_flatMap.1 hu
            exact E.one y u hy) hpos (by simpa using h63) (by simpa using hbytes) (Nat.zero_le _) w.heap.size rfl
        have hgs : g' = w.heap.size := by
          rcases hat with hat | hat
          · simp [Value.ownBlock] at hat
          · exact hat
        subst hgs
        have hgr' : w.grownBy w' none := by simpa [Value.ownBlock] using hgr
        refine ⟨_, cap', w', by simpa using hr, Or.inr ⟨_, rfl, hN, Own.ofRow E.pos E.len (by simpa using hown)⟩, hB.grown hgr' hN (by intro k hk; cases hk), fun T _ => KeepT.grown0 hgr', fun b cs _ hb => ?_⟩
        rw [hgr'.block b (blk_lt hb) (by simp)]; exact hb
    · obtain ⟨g', cap', w', hr, hown, hgr, hat⟩ := own_append (P := P) t ty E.ht hi i1 i2 i3 E.zs E.pos E.len E.one h ys B c hys h63 hbytes
      obtain ⟨cur, hcur, _⟩ := h.blk
      refine ⟨_, cap', w', hr, Or.inr ⟨g', rfl, ?_, hown⟩, hB.grown hgr hN (by intro k hk; injection hk with hk; omega), fun T hT => KeepT.grown hgr hcur hT, fun b cs hne hb => ?_⟩
      · rcases hat with h | h <;> omega
      · rw [hgr.block b (blk_lt hb) (by intro hk; injection hk with hk; exact hne (by rw [hk]))]; exact hb
/-- append of one element that was just laid down. -/
theorem GRow.push (E : ElT P enc t e sz bytes z) (h : GRow enc e sz w N A cap xs) (ty : TypeId) (x : α) (hB : Below N w0 w) (hN : N ≤ w.heap.size) (h63 : xs.length + 1 ≤ maxLen) (hbytes : (xs.length + 1) * bytes ≤ 140737488355328) :
    ∃ A' cap' w', (Builtin.append_ #[t, t] ty #[.slice A xs.length cap, .slice (some ⟨w.heap.size, 0, none⟩) 1 1]).run P (w.alloc (.cells (enc x).toArray e)) = .ok (.slice A' (xs.length + 1) cap') w' ∧
      GRow enc e sz w' N A' cap' (xs ++ [x]) ∧ Below N w0 w' ∧ (∀ T, T ≠ e → KeepT T w w') ∧ (∀ b cs, A ≠ some ⟨b, 0, none⟩ → w.heap[b]? = some cs → w'.heap[b]? = some cs) := by
  have h1 := h.keeps (KeepT.alloc e w (.cells (enc x).toArray e))
  obtain ⟨A', cap', w', hr, h2, h3, h4, h5⟩ := GRow.append (ys := [x]) E h1 ty (some ⟨w.heap.size, 0, none⟩) 1 (fun _ => ⟨w.heap.size, 0, rfl, fun k y hy j v hv => by
    rcases k with _ | k
    · simp only [List.getElem?_cons_zero, Option.some.injEq] at hy
      subst hy
      simpa using cell_blk (blk_new w (.cells (enc x).toArray e)) j (v := v) (by simpa using hv)
    · simp at hy⟩) (hB.alloc hN _) (by simp; omega) (by simpa using h63) (by simpa using hbytes)
  exact ⟨A', cap', w', by simpa using hr, h2, h3, fun T hT => (KeepT.alloc T w _).trans (h4 T hT), fun b cs hne hb => h5 b cs hne (blk_alloc hb _)⟩
end
end Go.Proofs.Ytibelfljlhcibaa
