/- Trees as plain data: how deep they are; the rows' places. -/
import Derived.Test.YtmichnnkkpgpmaaM2
namespace Go.Proofs.Ytmichnnkkpgpmaa
set_option linter.unusedVariables false
set_option linter.unusedSimpArgs false
namespace T
variable {κ ν : Type}
/-- The sides are nearly of one depth, everywhere. -/
def Bal : T κ ν → Prop
  | nil => True
  | node l _ _ r => Bal l ∧ Bal r ∧ l.depth ≤ r.depth + 1 ∧ r.depth ≤ l.depth + 1
theorem bal_fixL {ll u : T κ ν} {k : κ} {v : ν} (h1 : Bal ll) (h2 : Bal u) (h3 : ll.depth ≤ u.depth + 1) (h4 : u.depth ≤ ll.depth + 2) :
    Bal (fixL ll k v u) ∧ (u.depth ≤ (fixL ll k v u).depth ∧ (¬ ll.depth + 1 < u.depth → (fixL ll k v u).depth = 1 + max ll.depth u.depth)) ∧ (fixL ll k v u).depth ≤ 1 + max ll.depth u.depth := by
  unfold fixL
  by_cases h : ll.depth + 1 < u.depth
  · rw [if_pos h]
    cases u with
    | nil => simp [depth] at h
    | node ul uk uv ur =>
      obtain ⟨b1, b2, b3, b4⟩ := h2
      by_cases h5 : ur.depth < ul.depth
      · rw [show (if (node ul uk uv ur).right.depth < (node ul uk uv ur).left.depth then turnR (node ul uk uv ur) else node ul uk uv ur) = turnR (node ul uk uv ur) from if_pos h5]
        cases ul with
        | nil => simp [depth] at h5
        | node a k' v' b =>
          obtain ⟨c1, c2, c3, c4⟩ := b1
          simp only [turnR, turnL, Bal, depth] at *
          refine ⟨⟨⟨h1, c1, by omega, by omega⟩, ⟨c2, b2, by omega, by omega⟩, by omega, by omega⟩, ⟨by omega, fun h => by omega⟩, by omega⟩
      · rw [show (if (node ul uk uv ur).right.depth < (node ul uk uv ur).left.depth then turnR (node ul uk uv ur) else node ul uk uv ur) = node ul uk uv ur from if_neg h5]
        simp only [turnL, Bal, depth] at *
        exact ⟨⟨⟨h1, b1, by omega, by omega⟩, b2, by omega, by omega⟩, ⟨by omega, fun h => by omega⟩, by omega⟩
  · rw [if_neg h]
    simp only [Bal, depth]
    exact ⟨⟨h1, h2, by omega, by omega⟩, ⟨by omega, by first | trivial | (intro _; rfl) | (intro _; trivial) | simp⟩, by omega⟩
theorem bal_fixR {u rr : T κ ν} {k : κ} {v : ν} (h1 : Bal rr) (h2 : Bal u) (h3 : rr.depth ≤ u.depth + 1) (h4 : u.depth ≤ rr.depth + 2) :
    Bal (fixR u k v rr) ∧ (u.depth ≤ (fixR u k v rr).depth ∧ (¬ rr.depth + 1 < u.depth → (fixR u k v rr).depth = 1 + max rr.depth u.depth)) ∧ (fixR u k v rr).depth ≤ 1 + max rr.depth u.depth := by
  unfold fixR
  by_cases h : rr.depth + 1 < u.depth
  · rw [if_pos h]
    cases u with
    | nil => simp [depth] at h
    | node ul uk uv ur =>
      obtain ⟨b1, b2, b3, b4⟩ := h2
      by_cases h5 : ul.depth < ur.depth
      · rw [show (if (node ul uk uv ur).left.depth < (node ul uk uv ur).right.depth then turnL (node ul uk uv ur) else node ul uk uv ur) = turnL (node ul uk uv ur) from if_pos h5]
        cases ur with
        | nil => simp [depth] at h5
        | node a k' v' b =>
          obtain ⟨c1, c2, c3, c4⟩ := b2
          simp only [turnR, turnL, Bal, depth] at *
          refine ⟨⟨⟨b1, c1, by omega, by omega⟩, ⟨c2, h1, by omega, by omega⟩, by omega, by omega⟩, ⟨by omega, fun h => by omega⟩, by omega⟩
      · rw [show (if (node ul uk uv ur).left.depth < (node ul uk uv ur).right.depth then turnL (node ul uk uv ur) else node ul uk uv ur) = node ul uk uv ur from if_neg h5]
        simp only [turnR, Bal, depth] at *
        exact ⟨⟨b1, ⟨b2, h1, by omega, by omega⟩, by omega, by omega⟩, ⟨by omega, fun h => by omega⟩, by omega⟩
  · rw [if_neg h]
    simp only [Bal, depth]
    exact ⟨⟨h2, h1, by omega, by omega⟩, ⟨by omega, by first | trivial | (intro _; omega) | (intro _; trivial) | simp⟩, by omega⟩
theorem bal_join (l : T κ ν) (k : κ) (v : ν) (r : T κ ν) (hl : Bal l) (hr : Bal r) : Bal (join l k v r) ∧ max l.depth r.depth ≤ (join l k v r).depth ∧ (join l k v r).depth ≤ 1 + max l.depth r.depth := by
  obtain ⟨n, hn⟩ : ∃ n, n = l.size + r.size := ⟨_, rfl⟩
  induction n using Nat.strongRecOn generalizing l r with
  | ind n ih =>
    by_cases h : r.depth + 1 < l.depth
    · cases l with
      | nil => simp [depth] at h
      | node ll lk lv lr =>
        rw [join_L h]
        obtain ⟨a1, a2, a3, a4⟩ := hl
        obtain ⟨i1, i2, i3⟩ := ih _ (by subst hn; simp only [size]; omega) lr r a2 hr rfl
        simp only [depth] at h ⊢
        obtain ⟨j1, ⟨j2, j4⟩, j3⟩ := bal_fixL (k := lk) (v := lv) a1 i1 (by omega) (by omega)
        have j5 : ll.depth + 1 < (join lr k v r).depth ∨ (fixL ll lk lv (join lr k v r)).depth = 1 + max ll.depth (join lr k v r).depth := by
          by_cases hc : ll.depth + 1 < (join lr k v r).depth
          · exact Or.inl hc
          · exact Or.inr (j4 hc)
        exact ⟨j1, by omega, by omega⟩
    · by_cases h' : l.depth + 1 < r.depth
      · cases r with
        | nil => simp [depth] at h'
        | node rl rk rv rr =>
          rw [join_R h']
          obtain ⟨a1, a2, a3, a4⟩ := hr
          obtain ⟨i1, i2, i3⟩ := ih _ (by subst hn; simp only [size]; omega) l rl hl a1 rfl
          simp only [depth] at h' ⊢
          obtain ⟨j1, ⟨j2, j4⟩, j3⟩ := bal_fixR (k := rk) (v := rv) a2 i1 (by omega) (by omega)
          have j5 : rr.depth + 1 < (join l k v rl).depth ∨ (fixR (join l k v rl) rk rv rr).depth = 1 + max rr.depth (join l k v rl).depth := by
            by_cases hc : rr.depth + 1 < (join l k v rl).depth
            · exact Or.inl hc
            · exact Or.inr (j4 hc)
          exact ⟨j1, by omega, by omega⟩
      · rw [join_0 h h']
        simp only [Bal, depth]
        exact ⟨⟨hl, hr, by omega, by omega⟩, by omega, by omega⟩
theorem bal_last : ∀ (t t' : T κ ν) (k : κ) (v : ν), Bal t → last t = some (t', k, v) → Bal t'
  | nil, _, _, _, _, h => by cases h
  | node a k' v' b, t', k, v, hb, h => by
    unfold last at h
    split at h
    · simp only [Option.some.injEq, Prod.mk.injEq] at h
      obtain ⟨rfl, rfl, rfl⟩ := h
      exact hb.1
    · rename_i r' k1 v1 hbl
      simp only [Option.some.injEq, Prod.mk.injEq] at h
      obtain ⟨rfl, rfl, rfl⟩ := h
      exact (bal_join _ _ _ _ hb.1 (bal_last b _ _ _ hb.2.1 hbl)).1
theorem bal_both (l r : T κ ν) (hl : Bal l) (hr : Bal r) : Bal (both l r) := by
  unfold both
  split
  · exact hr
  · rename_i h
    exact (bal_join _ _ _ _ (bal_last _ _ _ _ hl h) hr).1
section
variable (lt : κ → κ → Bool)
theorem bal_put (k : κ) (v : ν) : ∀ t : T κ ν, Bal t → Bal (put lt k v t)
  | nil, _ => ⟨trivial, trivial, by simp [depth], by simp [depth]⟩
  | node l k' v' r, h => by
    unfold put
    split
    · exact (bal_join _ _ _ _ (bal_put k v l h.1) h.2.1).1
    · split
      · exact (bal_join _ _ _ _ h.1 (bal_put k v r h.2.1)).1
      · exact h
theorem bal_del (k : κ) : ∀ t : T κ ν, Bal t → Bal (del lt k t).1
  | nil, _ => trivial
  | node l k' v' r, h => by
    unfold del
    split
    · split
      · exact (bal_join _ _ _ _ (bal_del k l h.1) h.2.1).1
      · exact h
    · split
      · split
        · exact (bal_join _ _ _ _ h.1 (bal_del k r h.2.1)).1
        · exact h
      · exact bal_both _ _ h.1 h.2.1
theorem bal_split (k : κ) : ∀ t : T κ ν, Bal t → Bal (splitL lt k t) ∧ Bal (splitR lt k t)
  | nil, _ => ⟨trivial, trivial⟩
  | node l k' v' r, h => by
    unfold splitL splitR
    split
    · exact ⟨(bal_join _ _ _ _ h.1 (bal_split k r h.2.1).1).1, (bal_split k r h.2.1).2⟩
    · exact ⟨(bal_split k l h.1).1, (bal_join _ _ _ _ (bal_split k l h.1).2 h.2.1).1⟩
end
/-- How many binary digits. -/
def bins (n : Nat) : Nat := if n = 0 then 0 else 1 + bins (n / 2)
termination_by n
decreasing_by omega
theorem bins_zero : bins 0 = 0 := by rw [bins.eq_def]; rfl
theorem bins_pos {n : Nat} (h : n ≠ 0) : bins n = 1 + bins (n / 2) := by rw [bins.eq_def, if_neg h]
theorem bins_lt (n : Nat) : n < 2 ^ bins n := by
  induction n using Nat.strongRecOn with
  | ind n ih =>
    by_cases h : n = 0
    · subst h; rw [bins_zero]; decide
    · rw [bins_pos h, Nat.add_comm, Nat.pow_succ]
      have := ih (n / 2) (by omega)
      omega
theorem bins_le {n d : Nat} (h : n < 2 ^ d) : bins n ≤ d := by
  induction d generalizing n with
  | zero => simp at h; subst h; rw [bins_zero]; exact Nat.le_refl _
  | succ d ih =>
    by_cases h0 : n = 0
    · subst h0; rw [bins_zero]; omega
    · rw [bins_pos h0]
      rw [Nat.pow_succ] at h
      have := ih (n := n / 2) (by omega)
      omega
theorem size_lt : ∀ t : T κ ν, t.size < 2 ^ t.depth
  | nil => by simp [size, depth]
  | node l k v r => by
    have h1 := size_lt l
    have h2 := size_lt r
    simp only [size, depth]
    have h3 : 2 ^ l.depth ≤ 2 ^ max l.depth r.depth := Nat.pow_le_pow_right (by decide) (Nat.le_max_left ..)
    have h4 : 2 ^ r.depth ≤ 2 ^ max l.depth r.depth := Nat.pow_le_pow_right (by decide) (Nat.le_max_right ..)
    rw [Nat.add_comm 1, Nat.pow_succ]
    omega
/-- A balanced tree of a depth is not small. -/
theorem bal_size : ∀ (d : Nat) (t : T κ ν), Bal t → (2 * d ≤ t.depth → 2 ^ d ≤ t.size + 1) ∧ (2 * d + 1 ≤ t.depth → 2 ^ (d + 1) ≤ t.size + 1)
  | 0, t, hb => by
    refine ⟨fun _ => by simp, fun h => ?_⟩
    have := depth_le t
    simp; omega
  | d + 1, t, hb => by
    cases t with
    | nil => simp [depth]
    | node l k v r =>
      obtain ⟨b1, b2, b3, b4⟩ := hb
      have il := bal_size d l b1
      have ir := bal_size d r b2
      simp only [depth, size]
      constructor
      · intro h
        have e : 2 ^ (d + 1) = 2 ^ d * 2 := Nat.pow_succ ..
        have h1 := il.1 (by omega)
        have h2 := ir.1 (by omega)
        omega
      · intro h
        have e : 2 ^ (d + 1 + 1) = 2 ^ (d + 1) * 2 := Nat.pow_succ ..
        have h1 := il.2 (by omega)
        have h2 := ir.2 (by omega)
        omega
theorem depth_bins (t : T κ ν) (hb : Bal t) : t.depth ≤ 2 * bins t.size ∧ bins t.size ≤ t.depth := by
  refine ⟨?_, bins_le (size_lt t)⟩
  have h := bins_lt t.size
  rcases Nat.lt_or_ge (2 * bins t.size) t.depth with h' | h'
  · have h1 := (bal_size (bins t.size) t hb).2 (by omega)
    rw [Nat.pow_succ] at h1
    omega
  · exact h'
end T
end Go.Proofs.Ytmichnnkkpgpmaa
