/- Two rows of pointers, and what they point to, each thing in blocks of its own. A pair more in the two rows, step by step. -/
import Derived.Test.YtibelfljlhcibaaAP2
namespace Go.Proofs.Ytibelfljlhcibaa
set_option linter.unusedVariables false
set_option linter.unusedSimpArgs false
open Go.RowKit Go.Deep

def encPt (p : Option Addr) : List Value := [.pointer p]
def ptO (k : Nat) : Option Addr := some ⟨k, 0, none⟩
/-- Some pairs of objects: where the one lies, where the other, what both are. -/
abbrev Obs (α : Type) := List (Option (Nat × Nat × α))
def ptsA {α : Type} (l : Obs α) : List (Option Addr) := l.map fun o => o.map fun x => ⟨x.1, 0, none⟩
def ptsB {α : Type} (l : Obs α) : List (Option Addr) := l.map fun o => o.map fun x => ⟨x.2.1, 0, none⟩
abbrev ObP (α : Type) := World → (Nat → Prop) → (Nat → Prop) → Nat → Nat → α → Prop
/-- It hangs on these blocks alone. -/
def Local {α : Type} (P : ObP α) : Prop := ∀ w w' f g f' g' k m s, P w f g k m s → (∀ b, f b ∨ g b → b < w.heap.size → w'.heap[b]? = w.heap[b]?) → (∀ b, f b → f' b) → (∀ b, g b → g' b) → P w' f' g' k m s
structure Stand {α : Type} (P : ObP α) (eA eB : TypeId) (w : World) (F : Nat → Nat → Prop) (A : Option Addr) (cA : Nat) (pa : List (Option Addr)) (B : Option Addr) (cB : Nat) (pb : List (Option Addr)) (obs : Obs α) : Prop where
  fam : Fam w.heap.size F
  rowA : RowF encPt eA 1 w (F 0) A cA pa
  rowB : RowF encPt eB 1 w (F 1) B cB pb
  ob : ∀ (i k m : Nat) (s : α), obs[i]? = some (some (k, m, s)) → P w (F (2 * i + 2)) (F (2 * i + 3)) k m s
section
variable {α : Type} {P : ObP α} {eA eB : TypeId} {w w' : World} {F : Nat → Nat → Prop} {A B : Option Addr} {cA cB : Nat} {pa pb : List (Option Addr)} {obs : Obs α}
/-- F, and at j0 what has come. -/
def FG (F : Nat → Nat → Prop) (j0 n n' : Nat) (j b : Nat) : Prop := F j b ∨ (j = j0 ∧ n ≤ b ∧ b < n')
theorem Fam.grow (h : Fam w.heap.size F) (hs : w.heap.size ≤ w'.heap.size) (j0 : Nat) : Fam w'.heap.size (FG F j0 w.heap.size w'.heap.size) := by
  refine ⟨?_, ?_⟩
  · intro p q b h1 h2
    rcases h1 with h1 | ⟨rfl, h1, h1'⟩ <;> rcases h2 with h2 | ⟨rfl, h2, h2'⟩
    · exact h.1 _ _ _ h1 h2
    · have := h.2 _ _ h1; omega
    · have := h.2 _ _ h2; omega
    · rfl
  · intro p b h1
    rcases h1 with h1 | ⟨_, _, h1⟩
    · have := h.2 _ _ h1; omega
    · exact h1
theorem Fam.le {n m : Nat} (h : Fam n F) (hm : n ≤ m) : Fam m F := ⟨h.1, fun i b hb => Nat.lt_of_lt_of_le (h.2 i b hb) hm⟩
/-- Blocks of nobody have turned. -/
theorem Stand.fr (h : Stand P eA eB w F A cA pa B cB pb obs) (hP : Local P) {G : Nat → Prop} (hf : Fr G w w') (hG : ∀ j b, F j b → ¬ G b) : Stand P eA eB w' F A cA pa B cB pb obs :=
  ⟨h.fam.le hf.size, h.rowA.same fun b hb hl => hf.block b hl (hG _ _ hb), h.rowB.same fun b hb hl => hf.block b hl (hG _ _ hb),
    fun i k m s hi => hP _ _ _ _ _ _ _ _ _ (h.ob i k m s hi) (fun b hb hl => hf.block b hl (by rcases hb with hb | hb <;> exact hG _ _ hb)) (fun _ h => h) (fun _ h => h)⟩
theorem Stand.below (h : Stand P eA eB w F A cA pa B cB pb obs) (hP : Local P) (hb : Below w.heap.size w w') : Stand P eA eB w' F A cA pa B cB pb obs :=
  h.fr hP (Fr.below (fun _ => False) hb) fun _ _ _ h => h
/-- What has come is j0's. -/
theorem Stand.grow (h : Stand P eA eB w F A cA pa B cB pb obs) (hP : Local P) (hb : Below w.heap.size w w') (j0 : Nat) : Stand P eA eB w' (FG F j0 w.heap.size w'.heap.size) A cA pa B cB pb obs := by
  have h2 := h.below hP hb
  exact ⟨h.fam.grow hb.size j0, h2.rowA.mono fun b hb => Or.inl hb, h2.rowB.mono fun b hb => Or.inl hb,
    fun i k m s hi => hP _ _ _ _ _ _ _ _ _ (h2.ob i k m s hi) (fun _ _ _ => rfl) (fun _ h => Or.inl h) (fun _ h => Or.inl h)⟩
theorem Stand.pushA {tA : TypeId} (E : ElT Try.prog encPt tA eA 1 8 (.pointer none)) (h : Stand P eA eB w F A cA pa B cB pb obs) (hP : Local P) (p : Option Addr) (hl : pa.length ≤ 17592186044000) :
    ∃ A' c' w', (Builtin.append_ #[tA, tA] tA #[.slice A pa.length cA, .slice (some ⟨w.heap.size, 0, none⟩) 1 1]).run Try.prog (w.alloc (.cells #[.pointer p] eA)) = .ok (.slice A' (pa.length + 1) c') w' ∧
      Stand P eA eB w' (FG F 0 w.heap.size w'.heap.size) A' c' (pa ++ [p]) B cB pb obs ∧ Fr (F 0) w w' := by
  have b0 : Below w.heap.size w (w.alloc (.cells #[.pointer p] eA)) := (Below.refl _ _).alloc (Nat.le_refl _) _
  have nb := blk_new w (.cells #[.pointer p] eA (0, 0))
  obtain ⟨A', c', w', hr, R2, FR, _⟩ := RowF.append (ys := [p]) E (h.below hP b0).rowA tA (some ⟨w.heap.size, 0, none⟩) 1 (fun _ => ⟨w.heap.size, 0, rfl, fun k y hy j v hv => by
    rcases k with _ | k
    · simp at hy; subst hy
      rcases j with _ | j
      · simp [encPt] at hv; subst hv; exact cell_blk nb 0 rfl
      · simp [encPt] at hv
    · simp at hy⟩) (by simp only [maxLen, List.length_cons, List.length_nil]; omega) (by simp only [List.length_cons, List.length_nil]; omega)
  have FR0 : Fr (F 0) w w' := (Fr.below (F 0) b0).trans FR fun _ _ h => h
  refine ⟨A', c', w', hr, ⟨h.fam.grow FR0.size 0, R2.mono fun b hb => ?_, ?_, fun i k m s hi => ?_⟩, FR0⟩
  · rcases hb with hb | ⟨h1, h2⟩
    · exact Or.inl hb
    · exact Or.inr ⟨rfl, by rw [World.size_alloc] at h1; omega, h2⟩
  · exact (h.rowB.same fun b hb hl => FR0.block b hl fun h0 => by have := h.fam.1 _ _ _ hb h0; omega).mono fun b hb => Or.inl hb
  · exact hP _ _ _ _ _ _ _ _ _ (h.ob i k m s hi) (fun b hb hl => FR0.block b hl fun h0 => by rcases hb with hb | hb <;> (have := h.fam.1 _ _ _ hb h0; omega)) (fun _ h => Or.inl h) (fun _ h => Or.inl h)
theorem Stand.pushB {tB : TypeId} (E : ElT Try.prog encPt tB eB 1 8 (.pointer none)) (h : Stand P eA eB w F A cA pa B cB pb obs) (hP : Local P) (p : Option Addr) (hl : pb.length ≤ 17592186044000) :
    ∃ B' c' w', (Builtin.append_ #[tB, tB] tB #[.slice B pb.length cB, .slice (some ⟨w.heap.size, 0, none⟩) 1 1]).run Try.prog (w.alloc (.cells #[.pointer p] eB)) = .ok (.slice B' (pb.length + 1) c') w' ∧
      Stand P eA eB w' (FG F 1 w.heap.size w'.heap.size) A cA pa B' c' (pb ++ [p]) obs ∧ Fr (F 1) w w' := by
  have b0 : Below w.heap.size w (w.alloc (.cells #[.pointer p] eB)) := (Below.refl _ _).alloc (Nat.le_refl _) _
  have nb := blk_new w (.cells #[.pointer p] eB (0, 0))
  obtain ⟨B', c', w', hr, R2, FR, _⟩ := RowF.append (ys := [p]) E (h.below hP b0).rowB tB (some ⟨w.heap.size, 0, none⟩) 1 (fun _ => ⟨w.heap.size, 0, rfl, fun k y hy j v hv => by
    rcases k with _ | k
    · simp at hy; subst hy
      rcases j with _ | j
      · simp [encPt] at hv; subst hv; exact cell_blk nb 0 rfl
      · simp [encPt] at hv
    · simp at hy⟩) (by simp only [maxLen, List.length_cons, List.length_nil]; omega) (by simp only [List.length_cons, List.length_nil]; omega)
  have FR0 : Fr (F 1) w w' := (Fr.below (F 1) b0).trans FR fun _ _ h => h
  refine ⟨B', c', w', hr, ⟨h.fam.grow FR0.size 1, ?_, R2.mono fun b hb => ?_, fun i k m s hi => ?_⟩, FR0⟩
  · exact (h.rowA.same fun b hb hl => FR0.block b hl fun h0 => by have := h.fam.1 _ _ _ hb h0; omega).mono fun b hb => Or.inl hb
  · rcases hb with hb | ⟨h1, h2⟩
    · exact Or.inl hb
    · exact Or.inr ⟨rfl, by rw [World.size_alloc] at h1; omega, h2⟩
  · exact hP _ _ _ _ _ _ _ _ _ (h.ob i k m s hi) (fun b hb hl => FR0.block b hl fun h0 => by rcases hb with hb | hb <;> (have := h.fam.1 _ _ _ hb h0; omega)) (fun _ h => Or.inl h) (fun _ h => Or.inl h)
/-- One pair more. -/
theorem Stand.obs_new (h : Stand P eA eB w F A cA pa B cB pb obs) {k m : Nat} {s : α} (hp : P w (F (2 * obs.length + 2)) (F (2 * obs.length + 3)) k m s) : Stand P eA eB w F A cA pa B cB pb (obs ++ [some (k, m, s)]) := by
  refine ⟨h.fam, h.rowA, h.rowB, fun i k' m' s' hi => ?_⟩
  by_cases hlt : i < obs.length
  · rw [List.getElem?_append_left hlt] at hi
    exact h.ob i k' m' s' hi
  · have hl := (List.getElem?_eq_some_iff.1 hi).1
    simp at hl
    have hi0 : i = obs.length := by omega
    subst hi0
    rw [List.getElem?_append_right (Nat.le_refl _), Nat.sub_self] at hi
    simp at hi
    obtain ⟨rfl, rfl, rfl⟩ := hi
    exact hp
theorem Stand.obs_none (h : Stand P eA eB w F A cA pa B cB pb obs) : Stand P eA eB w F A cA pa B cB pb (obs ++ [none]) := by
  refine ⟨h.fam, h.rowA, h.rowB, fun i k' m' s' hi => ?_⟩
  by_cases hlt : i < obs.length
  · rw [List.getElem?_append_left hlt] at hi
    exact h.ob i k' m' s' hi
  · rw [List.getElem?_append_right (by omega)] at hi
    rcases hj : i - obs.length with _ | j
    · rw [hj] at hi; simp at hi
    · rw [hj] at hi; simp at hi
/-- What a step by both of a pair leaves. -/
def Turned (P : ObP α) (w w' : World) (f g : Nat → Prop) (k m : Nat) (s' : α) : Prop :=
  ∃ f' g' : Nat → Prop, P w' f' g' k m s' ∧ Fr (fun b => f b ∨ g b) w w' ∧ (∀ b, f' b → ¬ g' b) ∧ (∀ b, f' b → f b ∨ w.heap.size ≤ b) ∧ (∀ b, g' b → g b ∨ w.heap.size ≤ b) ∧ (∀ b, f' b → b < w'.heap.size) ∧ ∀ b, g' b → b < w'.heap.size
/-- The families behind a step by the pair i. -/
def FT (F : Nat → Nat → Prop) (i : Nat) (f' g' : Nat → Prop) (j b : Nat) : Prop := (j = 2 * i + 2 ∧ f' b) ∨ (j = 2 * i + 3 ∧ g' b) ∨ (j ≠ 2 * i + 2 ∧ j ≠ 2 * i + 3 ∧ F j b)
theorem FT_a (F : Nat → Nat → Prop) (i : Nat) (f' g' : Nat → Prop) : FT F i f' g' (2 * i + 2) = f' := by
  funext b; unfold FT; simp
theorem FT_b (F : Nat → Nat → Prop) (i : Nat) (f' g' : Nat → Prop) : FT F i f' g' (2 * i + 3) = g' := by
  funext b; unfold FT; simp
theorem FT_c (F : Nat → Nat → Prop) (i : Nat) (f' g' : Nat → Prop) {j : Nat} (h1 : j ≠ 2 * i + 2) (h2 : j ≠ 2 * i + 3) : FT F i f' g' j = F j := by
  funext b; unfold FT; simp [h1, h2]
/-- One pair took a step. -/
theorem Stand.turn (h : Stand P eA eB w F A cA pa B cB pb obs) (hP : Local P) {i k m : Nat} {s s' : α} (hi : obs[i]? = some (some (k, m, s))) (ht : Turned P w w' (F (2 * i + 2)) (F (2 * i + 3)) k m s') :
    ∃ F', Stand P eA eB w' F' A cA pa B cB pb (obs.set i (some (k, m, s'))) ∧ Fr (fun b => ∃ j, F j b) w w' ∧ ∀ j b, F' j b → (∃ j, F j b) ∨ w.heap.size ≤ b := by
  obtain ⟨f', g', hp, FR, hd, hf, hg, hf2, hg2⟩ := ht
  have keep : ∀ j, j ≠ 2 * i + 2 → j ≠ 2 * i + 3 → ∀ b, F j b → b < w.heap.size → w'.heap[b]? = w.heap[b]? := fun j h1 h2 b hb hl => FR.block b hl fun h0 => by
    rcases h0 with h0 | h0
    · exact h1 (h.fam.1 _ _ _ hb h0)
    · exact h2 (h.fam.1 _ _ _ hb h0)
  refine ⟨FT F i f' g', ⟨⟨?_, ?_⟩, ?_, ?_, ?_⟩, ?_, ?_⟩
  · intro p q b h1 h2
    rcases h1 with ⟨p1, p2⟩ | ⟨p1, p2⟩ | ⟨p1, p2, p3⟩ <;> rcases h2 with ⟨q1, q2⟩ | ⟨q1, q2⟩ | ⟨q1, q2, q3⟩
    · omega
    · exact absurd q2 (hd b p2)
    · rcases hf b p2 with hx | hx
      · exact absurd (h.fam.1 _ _ _ hx q3) (Ne.symm q1)
      · have := h.fam.2 _ _ q3; omega
    · exact absurd p2 (hd b q2)
    · omega
    · rcases hg b p2 with hx | hx
      · exact absurd (h.fam.1 _ _ _ hx q3) (Ne.symm q2)
      · have := h.fam.2 _ _ q3; omega
    · rcases hf b q2 with hx | hx
      · exact absurd (h.fam.1 _ _ _ hx p3) (Ne.symm p1)
      · have := h.fam.2 _ _ p3; omega
    · rcases hg b q2 with hx | hx
      · exact absurd (h.fam.1 _ _ _ hx p3) (Ne.symm p2)
      · have := h.fam.2 _ _ p3; omega
    · exact h.fam.1 _ _ _ p3 q3
  · intro q b hq
    rcases hq with ⟨_, hq⟩ | ⟨_, hq⟩ | ⟨_, _, hq⟩
    · exact hf2 b hq
    · exact hg2 b hq
    · have := h.fam.2 _ _ hq
      exact Nat.lt_of_lt_of_le this FR.size
  · rw [FT_c F i f' g' (by omega) (by omega)]
    exact h.rowA.same (keep 0 (by omega) (by omega))
  · rw [FT_c F i f' g' (by omega) (by omega)]
    exact h.rowB.same (keep 1 (by omega) (by omega))
  · intro j k' m' s2 hj
    by_cases hji : j = i
    · subst hji
      rw [List.getElem?_set_self (List.getElem?_eq_some_iff.1 hi).1] at hj
      simp at hj
      obtain ⟨rfl, rfl, rfl⟩ := hj
      rw [FT_a, FT_b]
      exact hp
    · rw [List.getElem?_set_ne (Ne.symm hji)] at hj
      rw [FT_c F i f' g' (j := 2 * j + 2) (by omega) (by omega), FT_c F i f' g' (j := 2 * j + 3) (by omega) (by omega)]
      exact hP _ _ _ _ _ _ _ _ _ (h.ob j k' m' s2 hj) (fun b hb hl => by
        rcases hb with hb | hb
        · exact keep (2 * j + 2) (by omega) (by omega) b hb hl
        · exact keep (2 * j + 3) (by omega) (by omega) b hb hl) (fun _ h => h) (fun _ h => h)
  · refine FR.mono fun b hb => ?_
    rcases hb with hb | hb
    · exact ⟨_, hb⟩
    · exact ⟨_, hb⟩
  · intro j b hb
    rcases hb with ⟨_, hb⟩ | ⟨_, hb⟩ | ⟨_, _, hb⟩
    · rcases hf b hb with h | h
      · exact Or.inl ⟨_, h⟩
      · exact Or.inr h
    · rcases hg b hb with h | h
      · exact Or.inl ⟨_, h⟩
      · exact Or.inr h
    · exact Or.inl ⟨_, hb⟩
theorem ptsA_set (l : Obs α) (i k m : Nat) (s s' : α) (hi : l[i]? = some (some (k, m, s))) : ptsA (l.set i (some (k, m, s'))) = ptsA l := by
  unfold ptsA
  rw [List.map_set]
  refine List.ext_getElem? fun j => ?_
  rw [List.getElem?_set]
  split
  · rename_i h; subst h
    split
    · rw [List.getElem?_map, hi]; rfl
    · rename_i h2
      rw [List.length_map] at h2
      have := (List.getElem?_eq_some_iff.1 hi).1
      omega
  · rfl
theorem ptsB_set (l : Obs α) (i k m : Nat) (s s' : α) (hi : l[i]? = some (some (k, m, s))) : ptsB (l.set i (some (k, m, s'))) = ptsB l := by
  unfold ptsB
  rw [List.map_set]
  refine List.ext_getElem? fun j => ?_
  rw [List.getElem?_set]
  split
  · rename_i h; subst h
    split
    · rw [List.getElem?_map, hi]; rfl
    · rename_i h2
      rw [List.length_map] at h2
      have := (List.getElem?_eq_some_iff.1 hi).1
      omega
  · rfl
/-- A pair's pointers, off the rows. -/
theorem Stand.at_ (h : Stand P eA eB w F A cA (ptsA obs) B cB (ptsB obs) obs) {i : Nat} {o : Option (Nat × Nat × α)} (hi : obs[i]? = some o) :
    ∃ a b, A = some ⟨a, 0, none⟩ ∧ B = some ⟨b, 0, none⟩ ∧ w.cell? ⟨a, i, none⟩ = some (.pointer (o.map fun x => ⟨x.1, 0, none⟩)) ∧ w.cell? ⟨b, i, none⟩ = some (.pointer (o.map fun x => ⟨x.2.1, 0, none⟩)) := by
  have h1 : (ptsA obs)[i]? = some (o.map fun x => ⟨x.1, 0, none⟩) := by unfold ptsA; rw [List.getElem?_map, hi]; rfl
  have h2 : (ptsB obs)[i]? = some (o.map fun x => ⟨x.2.1, 0, none⟩) := by unfold ptsB; rw [List.getElem?_map, hi]; rfl
  obtain ⟨a, ha, ca⟩ := h.rowA.cell h1 (j := 0) (v := .pointer (o.map fun x => ⟨x.1, 0, none⟩)) rfl
  obtain ⟨b, hb, cb⟩ := h.rowB.cell h2 (j := 0) (v := .pointer (o.map fun x => ⟨x.2.1, 0, none⟩)) rfl
  exact ⟨a, b, ha, hb, by simpa using ca, by simpa using cb⟩
theorem ptsA_len (l : Obs α) : (ptsA l).length = l.length := List.length_map _
theorem ptsB_len (l : Obs α) : (ptsB l).length = l.length := List.length_map _
end
end Go.Proofs.Ytibelfljlhcibaa
namespace Go.Proofs.Ytibelfljlhcibaa
set_option linter.unusedVariables false
set_option linter.unusedSimpArgs false
open Go.RowKit Go.Deep

abbrev OneP (α : Type) := World → (Nat → Prop) → Nat → α → Prop
def Local1 {α : Type} (P : OneP α) : Prop := ∀ w w' f f' k s, P w f k s → (∀ b, f b → b < w.heap.size → w'.heap[b]? = w.heap[b]?) → (∀ b, f b → f' b) → P w' f' k s
def ObQ {α : Type} (PA PB : OneP α) (ok : α → Prop) : ObP α := fun w f g k m s => PA w f k s ∧ PB w g m s ∧ ok s
section
variable {α : Type} {PA PB : OneP α} {ok : α → Prop} {eA eB : TypeId} {w wr w' : World} {A B : Option Addr} {cA cB : Nat} {pa pb : List (Option Addr)} {obs : Obs α}
theorem ObQ.local_ (hA : Local1 PA) (hB : Local1 PB) : Local (ObQ PA PB ok) := fun w w' f g f' g' k m s h hb hf hg =>
  ⟨hA _ _ _ _ _ _ h.1 (fun b h1 h2 => hb b (Or.inl h1) h2) hf, hB _ _ _ _ _ _ h.2.1 (fun b h1 h2 => hb b (Or.inr h1) h2) hg, h.2.2⟩
/-- The rows and the pairs stand in blocks that came behind w. -/
def StI (P : ObP α) (eA eB : TypeId) (w wr : World) (A : Option Addr) (cA : Nat) (pa : List (Option Addr)) (B : Option Addr) (cB : Nat) (pb : List (Option Addr)) (obs : Obs α) : Prop :=
  ∃ F, Stand P eA eB wr F A cA pa B cB pb obs ∧ (∀ j b, F j b → w.heap.size ≤ b) ∧ Below w.heap.size w wr
/-- The same, and one object more that is not in the rows yet: the first of a pair. -/
def StA (PA PB : OneP α) (ok : α → Prop) (eA eB : TypeId) (w wr : World) (A : Option Addr) (cA : Nat) (pa : List (Option Addr)) (B : Option Addr) (cB : Nat) (pb : List (Option Addr)) (obs : Obs α) (k : Nat) (s : α) : Prop :=
  ∃ F, Stand (ObQ PA PB ok) eA eB wr F A cA pa B cB pb obs ∧ (∀ j b, F j b → w.heap.size ≤ b) ∧ Below w.heap.size w wr ∧ PA wr (F (2 * obs.length + 2)) k s
def StB (PA PB : OneP α) (ok : α → Prop) (eA eB : TypeId) (w wr : World) (A : Option Addr) (cA : Nat) (pa : List (Option Addr)) (B : Option Addr) (cB : Nat) (pb : List (Option Addr)) (obs : Obs α) (k m : Nat) (s : α) : Prop :=
  ∃ F, Stand (ObQ PA PB ok) eA eB wr F A cA pa B cB pb obs ∧ (∀ j b, F j b → w.heap.size ≤ b) ∧ Below w.heap.size w wr ∧ PA wr (F (2 * obs.length + 2)) k s ∧ PB wr (F (2 * obs.length + 3)) m s
theorem StI.nil (P : ObP α) (eA eB : TypeId) (h : Below w.heap.size w wr) : StI P eA eB w wr none 0 [] none 0 [] ([] : Obs α) :=
  ⟨fun _ _ => False, ⟨⟨fun _ _ _ h => h.elim, fun _ _ h => h.elim⟩, RowF.nil, RowF.nil, fun i k m s hi => by simp at hi⟩, fun _ _ h => h.elim, h⟩
theorem StI.back {P : ObP α} (h : StI P eA eB w wr A cA pa B cB pb obs) : Below w.heap.size w wr := by
  obtain ⟨F, _, _, h⟩ := h
  exact h
theorem StI.below {P : ObP α} (hP : Local P) (h : StI P eA eB w wr A cA pa B cB pb obs) (hb : Below wr.heap.size wr w') : StI P eA eB w w' A cA pa B cB pb obs := by
  obtain ⟨F, h1, h2, h3⟩ := h
  exact ⟨F, h1.below hP hb, h2, h3.trans (hb.mono h3.size)⟩
theorem FG_lo {F : Nat → Nat → Prop} {j0 n n' N : Nat} (h : ∀ j b, F j b → N ≤ b) (hn : N ≤ n) : ∀ j b, FG F j0 n n' j b → N ≤ b := fun j b hb => by
  rcases hb with hb | hb
  · exact h j b hb
  · omega
/-- The first of a pair has come. -/
theorem StI.first (hA : Local1 PA) (hB : Local1 PB) (h : StI (ObQ PA PB ok) eA eB w wr A cA pa B cB pb obs) (hb : Below wr.heap.size wr w') {k : Nat} {s : α} (ho : PA w' (fun b => wr.heap.size ≤ b ∧ b < w'.heap.size) k s) : StA PA PB ok eA eB w w' A cA pa B cB pb obs k s := by
  obtain ⟨F, h1, h2, h3⟩ := h
  exact ⟨_, h1.grow (ObQ.local_ hA hB) hb (2 * obs.length + 2), FG_lo h2 h3.size, h3.trans (hb.mono h3.size), hA _ _ _ _ _ _ ho (fun _ _ _ => rfl) fun b hb => Or.inr ⟨rfl, hb⟩⟩
theorem StA.pushA {tA : TypeId} (E : ElT Try.prog encPt tA eA 1 8 (.pointer none)) (hA : Local1 PA) (hB : Local1 PB) {k : Nat} {s : α} (h : StA PA PB ok eA eB w wr A cA pa B cB pb obs k s) (p : Option Addr) (hl : pa.length ≤ 17592186044000) :
    ∃ A' c' w', (Builtin.append_ #[tA, tA] tA #[.slice A pa.length cA, .slice (some ⟨wr.heap.size, 0, none⟩) 1 1]).run Try.prog (wr.alloc (.cells #[.pointer p] eA)) = .ok (.slice A' (pa.length + 1) c') w' ∧ StA PA PB ok eA eB w w' A' c' (pa ++ [p]) B cB pb obs k s := by
  obtain ⟨F, h1, h2, h3, h4⟩ := h
  obtain ⟨A', c', w', hr, S, FR⟩ := h1.pushA E (ObQ.local_ hA hB) p hl
  refine ⟨A', c', w', hr, _, S, FG_lo h2 h3.size, h3.trans (FR.toBelow (fun x hx => h2 _ x hx) h3.size), ?_⟩
  exact hA _ _ _ _ _ _ h4 (fun b hb hl => FR.block b hl fun h0 => by have := h1.fam.1 _ _ _ hb h0; omega) fun b hb => Or.inl hb
theorem StA.second (hA : Local1 PA) (hB : Local1 PB) {k : Nat} {s : α} (h : StA PA PB ok eA eB w wr A cA pa B cB pb obs k s) (hb : Below wr.heap.size wr w') {m : Nat} (ho : PB w' (fun b => wr.heap.size ≤ b ∧ b < w'.heap.size) m s) : StB PA PB ok eA eB w w' A cA pa B cB pb obs k m s := by
  obtain ⟨F, h1, h2, h3, h4⟩ := h
  exact ⟨_, h1.grow (ObQ.local_ hA hB) hb (2 * obs.length + 3), FG_lo h2 h3.size, h3.trans (hb.mono h3.size), hA _ _ _ _ _ _ h4 (fun b h1 h2 => hb.block b h2) (fun b hb => Or.inl hb), hB _ _ _ _ _ _ ho (fun _ _ _ => rfl) fun b hb => Or.inr ⟨rfl, hb⟩⟩
theorem StB.pushB {tB : TypeId} (E : ElT Try.prog encPt tB eB 1 8 (.pointer none)) (hA : Local1 PA) (hB : Local1 PB) {k m : Nat} {s : α} (h : StB PA PB ok eA eB w wr A cA pa B cB pb obs k m s) (hs : ok s) (p : Option Addr) (hl : pb.length ≤ 17592186044000) :
    ∃ B' c' w', (Builtin.append_ #[tB, tB] tB #[.slice B pb.length cB, .slice (some ⟨wr.heap.size, 0, none⟩) 1 1]).run Try.prog (wr.alloc (.cells #[.pointer p] eB)) = .ok (.slice B' (pb.length + 1) c') w' ∧ StI (ObQ PA PB ok) eA eB w w' A cA pa B' c' (pb ++ [p]) (obs ++ [some (k, m, s)]) := by
  obtain ⟨F, h1, h2, h3, h4, h5⟩ := h
  obtain ⟨B', c', w', hr, S, FR⟩ := h1.pushB E (ObQ.local_ hA hB) p hl
  refine ⟨B', c', w', hr, _, S.obs_new ⟨?_, ?_, hs⟩, FG_lo h2 h3.size, h3.trans (FR.toBelow (fun x hx => h2 _ x hx) h3.size)⟩
  · exact hA _ _ _ _ _ _ h4 (fun b hb hl => FR.block b hl fun h0 => by have := h1.fam.1 _ _ _ hb h0; omega) fun b hb => Or.inl hb
  · exact hB _ _ _ _ _ _ h5 (fun b hb hl => FR.block b hl fun h0 => by have := h1.fam.1 _ _ _ hb h0; omega) fun b hb => Or.inl hb
theorem StI.pushA {P : ObP α} {tA : TypeId} (E : ElT Try.prog encPt tA eA 1 8 (.pointer none)) (hP : Local P) (h : StI P eA eB w wr A cA pa B cB pb obs) (p : Option Addr) (hl : pa.length ≤ 17592186044000) :
    ∃ A' c' w', (Builtin.append_ #[tA, tA] tA #[.slice A pa.length cA, .slice (some ⟨wr.heap.size, 0, none⟩) 1 1]).run Try.prog (wr.alloc (.cells #[.pointer p] eA)) = .ok (.slice A' (pa.length + 1) c') w' ∧ StI P eA eB w w' A' c' (pa ++ [p]) B cB pb obs := by
  obtain ⟨F, h1, h2, h3⟩ := h
  obtain ⟨A', c', w', hr, S, FR⟩ := h1.pushA E hP p hl
  exact ⟨A', c', w', hr, _, S, FG_lo h2 h3.size, h3.trans (FR.toBelow (fun x hx => h2 _ x hx) h3.size)⟩
theorem StI.pushB {P : ObP α} {tB : TypeId} (E : ElT Try.prog encPt tB eB 1 8 (.pointer none)) (hP : Local P) (h : StI P eA eB w wr A cA pa B cB pb obs) (p : Option Addr) (hl : pb.length ≤ 17592186044000) :
    ∃ B' c' w', (Builtin.append_ #[tB, tB] tB #[.slice B pb.length cB, .slice (some ⟨wr.heap.size, 0, none⟩) 1 1]).run Try.prog (wr.alloc (.cells #[.pointer p] eB)) = .ok (.slice B' (pb.length + 1) c') w' ∧ StI P eA eB w w' A cA pa B' c' (pb ++ [p]) (obs ++ [none]) := by
  obtain ⟨F, h1, h2, h3⟩ := h
  obtain ⟨B', c', w', hr, S, FR⟩ := h1.pushB E hP p hl
  exact ⟨B', c', w', hr, _, S.obs_none, FG_lo h2 h3.size, h3.trans (FR.toBelow (fun x hx => h2 _ x hx) h3.size)⟩
theorem Stand.turnI {P : ObP α} (hP : Local P) {F : Nat → Nat → Prop} (h1 : Stand P eA eB wr F A cA (ptsA obs) B cB (ptsB obs) obs) (h2 : ∀ j b, F j b → w.heap.size ≤ b) (h3 : Below w.heap.size w wr) {i k m : Nat} {s s' : α} (hi : obs[i]? = some (some (k, m, s))) (ht : Turned P wr w' (F (2 * i + 2)) (F (2 * i + 3)) k m s') :
    StI P eA eB w w' A cA (ptsA (obs.set i (some (k, m, s')))) B cB (ptsB (obs.set i (some (k, m, s')))) (obs.set i (some (k, m, s'))) := by
  obtain ⟨F', S, FR, hlo⟩ := h1.turn hP hi ht
  rw [ptsA_set obs i k m s s' hi, ptsB_set obs i k m s s' hi]
  refine ⟨F', S, fun j b hb => ?_, h3.trans (FR.toBelow (fun x hx => by obtain ⟨j, hj⟩ := hx; exact h2 j x hj) h3.size)⟩
  rcases hlo j b hb with ⟨j', hj⟩ | hl
  · exact h2 j' b hj
  · exact Nat.le_trans h3.size hl
end
end Go.Proofs.Ytibelfljlhcibaa
