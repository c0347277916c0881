/- Lists that share no memory: families of blocks, the three phases' plain laws. -/
import Derived.Test.YtibelfljlhcibaaAP1
namespace Go.Proofs.Ytibelfljlhcibaa
set_option linter.unusedVariables false
set_option linter.unusedSimpArgs false
open Go.RowKit Go.Deep

/-- Each block is of one list at most. -/
def Fam (n : Nat) (F : Nat → Nat → Prop) : Prop := (∀ i j b, F i b → F j b → i = j) ∧ ∀ i b, F i b → b < n
/-- The lists lie in their blocks. -/
def LsAt (w : World) (F : Nat → Nat → Prop) (ss : List SlB) (X : Nat → List Int) : Prop := ∀ j s, ss[j]? = some s → s.2.1 = (X j).length ∧ RowF bc 5 1 w (F j) s.1 s.2.2 (X j)
def mkA (i k : Nat) : Int := ((37 * i + 5 * k + 11 : Nat) : Int) % 256
def mkB (i k : Nat) : Int := ((101 * i + 3 * k + 60 : Nat) : Int) % 256
def rowA (i n : Nat) : List Int := (List.range n).map (mkA i)
def rowB (i n : Nat) : List Int := (List.range n).map (mkB i)
theorem rowA_len (i n : Nat) : (rowA i n).length = n := by simp [rowA]
theorem rowB_len (i n : Nat) : (rowB i n).length = n := by simp [rowB]
theorem rowB_succ (i k : Nat) : rowB i (k + 1) = rowB i k ++ [mkB i k] := by simp [rowB, List.range_succ]
theorem rowA_succ (i k : Nat) : rowA i (k + 1) = rowA i k ++ [mkA i k] := by simp [rowA, List.range_succ]
theorem rowA_get {i n k : Nat} (h : k < n) : (rowA i n)[k]? = some (mkA i k) := by simp [rowA, h]
theorem rowB_get {i n k : Nat} (h : k < n) : (rowB i n)[k]? = some (mkB i k) := by simp [rowB, h]
def XA (X : Nat → List Int) (i : Nat) : Nat → List Int := fun j => if j < i then rowA j (X j).length else X j
def XAk (X : Nat → List Int) (i k : Nat) : Nat → List Int := fun j => if j = i then rowA i k ++ (X i).drop k else XA X i j
theorem XA_len (X : Nat → List Int) (i j : Nat) : (XA X i j).length = (X j).length := by
  unfold XA; split
  · exact rowA_len _ _
  · rfl
theorem XAk_zero (X : Nat → List Int) (i : Nat) : XAk X i 0 = XA X i := by
  funext j
  unfold XAk XA
  split
  · rename_i h; subst h; simp [rowA]
  · rfl
theorem XAk_full (X : Nat → List Int) (i : Nat) : XAk X i (X i).length = XA X (i + 1) := by
  funext j
  unfold XAk XA
  by_cases h : j = i
  · subst h; simp
  · rw [if_neg h]
    by_cases h2 : j < i
    · rw [if_pos h2, if_pos (by omega)]
    · rw [if_neg h2, if_neg (by omega)]
theorem XAk_len (X : Nat → List Int) {i k : Nat} (hk : k ≤ (X i).length) (j : Nat) : (XAk X i k j).length = (X j).length := by
  unfold XAk
  split
  · rename_i h; subst h; rw [List.length_append, rowA_len, List.length_drop]; omega
  · exact XA_len X i j
theorem XAk_step (X : Nat → List Int) {i k : Nat} (hk : k < (X i).length) : (fun j => if j = i then (XAk X i k i).set k (mkA i k) else XAk X i k j) = XAk X i (k + 1) := by
  funext j
  by_cases h : j = i
  · subst h
    rw [if_pos rfl]
    unfold XAk
    rw [if_pos rfl, if_pos rfl, rowA_succ, List.append_assoc, List.set_append_right _ _ (by rw [rowA_len]; exact Nat.le_refl _), rowA_len, Nat.sub_self, List.drop_eq_getElem_cons hk]
    rfl
  · rw [if_neg h]
    unfold XAk
    rw [if_neg h, if_neg h]
/-- All that an apart may turn. -/
def FU (F : Nat → Nat → Prop) (b : Nat) : Prop := ∃ j, F j b
section
variable {w w' w2 : World} {F : Nat → Nat → Prop} {ss : List SlB} {X : Nat → List Int} {n : Nat}
theorem LsAt.keeps (h : LsAt w F ss X) (K : KeepT 5 w w') : LsAt w' F ss X := fun j s hs => ⟨(h j s hs).1, (h j s hs).2.keeps K⟩
/-- One cell of one list is set. -/
theorem LsAt.set (hF : Fam n F) (h : LsAt w F ss X) {i : Nat} {A : Option Addr} {m c : Nat} (hs : ss[i]? = some (A, m, c)) {k : Nat} (hk : k < m) (y : Int) :
    ∃ g, A = some ⟨g, 0, none⟩ ∧ F i g ∧ w.frozen? ⟨g, k, none⟩ = false ∧ (∃ v, w.cell? ⟨g, k, none⟩ = some v) ∧ LsAt (w.setCell ⟨g, k, none⟩ (.int .u8 y)) F ss (fun j => if j = i then (X i).set k y else X j) := by
  obtain ⟨h1, h2⟩ := h i _ hs
  simp only at h1 h2
  rcases h2 with ⟨_, _, h0⟩ | ⟨g, rfl, hg, O⟩
  · rw [h0] at h1; simp at h1; omega
  · have hgl := O.lt
    have hx : (X i)[k]? = some (X i)[k] := List.getElem?_eq_getElem (by omega)
    have hcell := O.cell hx (j := 0) (v := .int .u8 (X i)[k]) (by simp [bc])
    refine ⟨g, rfl, hg, O.free k, ⟨_, by simpa using hcell⟩, fun j s hj => ?_⟩
    by_cases hji : j = i
    · subst hji
      rw [hs] at hj
      injection hj with hj; subst hj
      simp only [if_pos]
      refine ⟨by rw [List.length_set]; exact h1, Or.inr ⟨g, rfl, hg, ?_⟩⟩
      exact Own.set1 (fun _ => rfl) O (by omega) (v := .int .u8 y) (by simp [bc])
    · simp only [if_neg hji]
      obtain ⟨q1, q2⟩ := h j s hj
      refine ⟨q1, q2.same fun b hb hl => ?_⟩
      exact Below.heap_setCell _ _ _ _ (by intro e; subst e; exact hji (hF.1 _ _ _ hb hg))
/-- The lists but the one that is gone on with. -/
def LsX (w : World) (F : Nat → Nat → Prop) (ss : List SlB) (X : Nat → List Int) (i : Nat) : Prop := ∀ j s, j ≠ i → ss[j]? = some s → s.2.1 = (X j).length ∧ RowF bc 5 1 w (F j) s.1 s.2.2 (X j)
/-- Those that are gone on with. -/
def GDone (w : World) (F : Nat → Nat → Prop) (ss gs : List SlB) (X : Nat → List Int) (i : Nat) : Prop := gs.length = i ∧ ∀ j s, j < i → ss[j]? = some s → ∃ A c, gs[j]? = some (A, s.2.1 + 80, c) ∧ RowF bc 5 1 w (F j) A c (X j ++ rowB j 80)
/-- The one that is gone on with, k places on. -/
def GSt (w : World) (Fi : Nat → Prop) (A : Option Addr) (c : Nat) (x : List Int) (i k : Nat) (Ag : Option Addr) (cg : Nat) : Prop :=
  (Ag = A ∧ cg = c ∧ RowF bc 5 1 w Fi A c (x ++ rowB i k)) ∨ (RowF bc 5 1 w Fi A c x ∧ ∃ g', Ag = some ⟨g', 0, none⟩ ∧ Fi g' ∧ A ≠ Ag ∧ OwnB w g' cg (x ++ rowB i k))
theorem grow_step {i m c cg k : Nat} {A Ag : Option Addr} {gs : List SlB} (HF : Fam w.heap.size F) (hs : ss[i]? = some (A, m, c)) (hm : m = (X i).length) (LX : LsX w F ss X i) (GD : GDone w F ss gs X i) (GS : GSt w (F i) A c (X i) i k Ag cg) (hl : m + k + 1 ≤ 140737488355328) :
    ∃ A' c' w2 F', (Builtin.append_ #[23, 23] 23 #[.slice Ag (m + k) cg, .slice (some ⟨w.heap.size, 0, none⟩) 1 1]).run Try.prog (w.alloc (.cells #[.int .u8 (mkB i k)] 5)) = .ok (.slice A' (m + k + 1) c') w2 ∧
      Fam w2.heap.size F' ∧ LsX w2 F' ss X i ∧ GDone w2 F' ss gs X i ∧ GSt w2 (F' i) A c (X i) i (k + 1) A' c' ∧ Fr (F i) w w2 ∧ (∀ T, T ≠ 5 → KeepT T w w2) ∧ (∀ j b, F j b → F' j b) ∧ (∀ j b, F' j b → F j b ∨ w.heap.size ≤ b) := by
  have fin : ∀ (A' : Option Addr) (c' : Nat) (w2 : World), Fr (F i) w w2 → (∀ T, T ≠ 5 → KeepT T w w2) → GSt w2 (fun b => F i b ∨ (w.heap.size ≤ b ∧ b < w2.heap.size)) A c (X i) i (k + 1) A' c' →
      ∃ F', Fam w2.heap.size F' ∧ LsX w2 F' ss X i ∧ GDone w2 F' ss gs X i ∧ GSt w2 (F' i) A c (X i) i (k + 1) A' c' ∧ Fr (F i) w w2 ∧ (∀ T, T ≠ 5 → KeepT T w w2) ∧ (∀ j b, F j b → F' j b) ∧ (∀ j b, F' j b → F j b ∨ w.heap.size ≤ b) := by
    intro A' c' w2 FR K G
    have same : ∀ j, j ≠ i → ∀ b, F j b → b < w.heap.size → w2.heap[b]? = w.heap[b]? := fun j hj b hb hl => FR.block b hl fun h => hj (HF.1 _ _ _ hb h)
    refine ⟨fun j b => F j b ∨ (j = i ∧ w.heap.size ≤ b ∧ b < w2.heap.size), ⟨?_, ?_⟩, ?_, ⟨GD.1, ?_⟩, ?_, FR, K, fun j b h => Or.inl h, ?_⟩
    · intro p q b h1 h2
      rcases h1 with h1 | ⟨rfl, h1, h1'⟩ <;> rcases h2 with h2 | ⟨rfl, h2, h2'⟩
      · exact HF.1 _ _ _ h1 h2
      · have := HF.2 _ _ h1; omega
      · have := HF.2 _ _ h2; omega
      · rfl
    · intro p b h1
      rcases h1 with h1 | ⟨_, _, h1⟩
      · have := HF.2 _ _ h1; have := FR.size; omega
      · exact h1
    · intro j s hj hjs
      obtain ⟨q1, q2⟩ := LX j s hj hjs
      exact ⟨q1, (q2.same (same j hj)).mono fun b h => Or.inl h⟩
    · intro j s hj hjs
      obtain ⟨A2, c2, q1, q2⟩ := GD.2 j s hj hjs
      exact ⟨A2, c2, q1, (q2.same (same j (by omega))).mono fun b h => Or.inl h⟩
    · have e : (fun b => F i b ∨ (w.heap.size ≤ b ∧ b < w2.heap.size)) = fun b => F i b ∨ (i = i ∧ w.heap.size ≤ b ∧ b < w2.heap.size) := by funext b; simp
      rw [e] at G
      exact G
    · intro j b h
      rcases h with h | ⟨_, h, _⟩
      · exact Or.inl h
      · exact Or.inr h
  have lenk : ∀ l : List Int, l = X i ++ rowB i k → l.length = m + k := fun l e => by rw [e, List.length_append, rowB_len, hm]
  have big : ∀ b, F i b → F i b ∨ (w.heap.size ≤ b ∧ b < w.heap.size) := fun b h => Or.inl h
  rcases GS with ⟨rfl, rfl, R⟩ | ⟨R, g', rfl, hg', hne, O⟩
  · rcases R with ⟨rfl, rfl, h0⟩ | ⟨g, rfl, hg, O⟩
    · have hx : X i = [] := (List.append_eq_nil_iff.1 h0).1
      have hk : k = 0 := by
        have := (List.append_eq_nil_iff.1 h0).2
        have := congrArg List.length this
        rw [rowB_len] at this; simpa using this
      have hm0 : m = 0 := by rw [hm, hx]; rfl
      subst hk
      subst hm0
      obtain ⟨A', c', w2, hr, G2, B2, K2, _⟩ := GRow.push (N := w.heap.size) (w0 := w) elBy (GRow.nil (w := w)) 23 (mkB i 0) (Below.refl _ _) (Nat.le_refl _) (by simp [maxLen]) (by simp)
      obtain ⟨F', f1, f2, f3, f4, f5⟩ := fin A' c' w2 (Fr.below _ B2) K2 (by
        rcases G2 with ⟨_, _, h⟩ | ⟨g', h, h1, h2⟩
        · simp at h
        · right
          refine ⟨by rw [hx]; exact RowF.nil, g', h, Or.inr ⟨h1, h2.lt⟩, by rw [h]; simp, ?_⟩
          rw [hx]
          simpa [rowB] using h2)
      exact ⟨A', c', w2, F', hr, f1, f2, f3, f4, f5⟩
    · obtain ⟨A', c', w2, hr, FR, K2, hc⟩ := push_two O (mkB i k) (by rw [lenk _ rfl]; omega)
      rw [lenk _ rfl] at hr
      obtain ⟨F', f1, f2, f3, f4, f5⟩ := fin A' c' w2 (FR.mono fun b h => by subst h; exact hg) K2 (by
        rcases hc with ⟨h1, h2, h3⟩ | ⟨g', h1, h2, h3, h4⟩
        · left
          exact ⟨h1, h2, Or.inr ⟨g, rfl, Or.inl hg, by rw [rowB_succ, ← List.append_assoc]; exact h3⟩⟩
        · right
          have hgl := O.lt
          refine ⟨Or.inr ⟨g, rfl, Or.inl hg, ?_⟩, g', h1, Or.inr ⟨h2, h3.lt⟩, ?_, by rw [rowB_succ, ← List.append_assoc]; exact h3⟩
          · have := (O.take m).below h4
            rw [List.take_append_of_le_length (by omega), hm, List.take_length] at this
            exact this
          · rw [h1]; intro e; injection e with e; injection e with e; omega)
      exact ⟨A', c', w2, F', hr, f1, f2, f3, f4, f5⟩
  · obtain ⟨A', c', w2, hr, FR, K2, hc⟩ := push_two O (mkB i k) (by rw [lenk _ rfl]; omega)
    rw [lenk _ rfl] at hr
    have R2 : RowF bc 5 1 w2 (F i) A c (X i) := by
      rcases R with h | ⟨g, rfl, hg, Og⟩
      · exact Or.inl h
      · exact Or.inr ⟨g, rfl, hg, Og.moved (FR.block g Og.lt (fun e => hne (by rw [e])))⟩
    obtain ⟨F', f1, f2, f3, f4, f5⟩ := fin A' c' w2 (FR.mono fun b h => by subst h; exact hg') K2 (by
      right
      rcases hc with ⟨h1, h2, h3⟩ | ⟨g2, h1, h2, h3, h4⟩
      · exact ⟨R2.mono fun b h => Or.inl h, g', h1, Or.inl hg', by rw [h1]; exact hne, by rw [h2, rowB_succ, ← List.append_assoc]; exact h3⟩
      · refine ⟨R2.mono fun b h => Or.inl h, g2, h1, Or.inr ⟨h2, h3.lt⟩, ?_, by rw [rowB_succ, ← List.append_assoc]; exact h3⟩
        rw [h1]
        intro e
        rcases R with ⟨hn, _, _⟩ | ⟨g, hgA, hg, Og⟩
        · rw [hn] at e; cases e
        · rw [hgA] at e; injection e with e; injection e with e
          have := Og.lt; omega)
    exact ⟨A', c', w2, F', hr, f1, f2, f3, f4, f5⟩
theorem GSt.zero {Fi : Nat → Prop} {A : Option Addr} {c i : Nat} {x : List Int} (h : RowF bc 5 1 w Fi A c x) : GSt w Fi A c x i 0 A c := Or.inl ⟨rfl, rfl, by simpa [rowB] using h⟩
theorem GSt.row {Fi : Nat → Prop} {A Ag : Option Addr} {c cg i k : Nat} {x : List Int} (h : GSt w Fi A c x i k Ag cg) : RowF bc 5 1 w Fi A c x := by
  rcases h with ⟨_, _, R⟩ | ⟨R, _⟩
  · have := R.take x.length
    rwa [List.take_left'] at this
    rfl
  · exact R
theorem GSt.grown {Fi : Nat → Prop} {A Ag : Option Addr} {c cg i k : Nat} {x : List Int} (h : GSt w Fi A c x i k Ag cg) : RowF bc 5 1 w Fi Ag cg (x ++ rowB i k) := by
  rcases h with ⟨rfl, rfl, R⟩ | ⟨_, g', h1, h2, _, O⟩
  · exact R
  · exact Or.inr ⟨g', h1, h2, O⟩
end
end Go.Proofs.Ytibelfljlhcibaa
