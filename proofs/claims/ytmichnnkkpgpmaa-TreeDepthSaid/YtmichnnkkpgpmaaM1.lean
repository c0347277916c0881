/- Trees as plain data: what the code makes of them. -/
import Derived.Test.YtmichnnkkpgpmaaK
namespace Go.Proofs.Ytmichnnkkpgpmaa
set_option linter.unusedVariables false
set_option linter.unusedSimpArgs false

inductive T (κ ν : Type) where
  | nil
  | node (l : T κ ν) (k : κ) (v : ν) (r : T κ ν)
namespace T
variable {κ ν : Type}
def size : T κ ν → Nat
  | nil => 0
  | node l _ _ r => l.size + 1 + r.size
def depth : T κ ν → Nat
  | nil => 0
  | node l _ _ r => 1 + max l.depth r.depth
def left : T κ ν → T κ ν
  | nil => nil
  | node l _ _ _ => l
def right : T κ ν → T κ ν
  | nil => nil
  | node _ _ _ r => r
def toList : T κ ν → List (κ × ν)
  | nil => []
  | node l k v r => l.toList ++ (k, v) :: r.toList
def turnL : T κ ν → T κ ν
  | node a k v (node b k' v' c) => node (node a k v b) k' v' c
  | t => t
def turnR : T κ ν → T κ ν
  | node (node a k v b) k' v' c => node a k v (node b k' v' c)
  | t => t
def fixL (ll : T κ ν) (k : κ) (v : ν) (u : T κ ν) : T κ ν :=
  if ll.depth + 1 < u.depth then turnL (node ll k v (if u.right.depth < u.left.depth then turnR u else u)) else node ll k v u
def fixR (u : T κ ν) (k : κ) (v : ν) (rr : T κ ν) : T κ ν :=
  if rr.depth + 1 < u.depth then turnR (node (if u.left.depth < u.right.depth then turnL u else u) k v rr) else node u k v rr
def join (l : T κ ν) (k : κ) (v : ν) (r : T κ ν) : T κ ν :=
  if r.depth + 1 < l.depth then
    match l with
    | nil => node nil k v r
    | node ll lk lv lr => fixL ll lk lv (join lr k v r)
  else if l.depth + 1 < r.depth then
    match r with
    | nil => node l k v nil
    | node rl rk rv rr => fixR (join l k v rl) rk rv rr
  else node l k v r
termination_by l.size + r.size
decreasing_by all_goals (simp only [size]; omega)
theorem join_L {ll : T κ ν} {lk : κ} {lv : ν} {lr : T κ ν} {k : κ} {v : ν} {r : T κ ν} (h : r.depth + 1 < (node ll lk lv lr).depth) : join (node ll lk lv lr) k v r = fixL ll lk lv (join lr k v r) := by
  rw [join.eq_def, if_pos h]
theorem join_R {l : T κ ν} {k : κ} {v : ν} {rl : T κ ν} {rk : κ} {rv : ν} {rr : T κ ν} (h : l.depth + 1 < (node rl rk rv rr).depth) : join l k v (node rl rk rv rr) = fixR (join l k v rl) rk rv rr := by
  rw [join.eq_def, if_neg (by omega), if_pos h]
theorem join_0 {l : T κ ν} {k : κ} {v : ν} {r : T κ ν} (h : ¬ r.depth + 1 < l.depth) (h' : ¬ l.depth + 1 < r.depth) : join l k v r = node l k v r := by
  rw [join.eq_def, if_neg h, if_neg h']
def last : T κ ν → Option (T κ ν × κ × ν)
  | nil => none
  | node l k v r => match last r with
    | none => some (l, k, v)
    | some (r', k', v') => some (join l k v r', k', v')
def both (l r : T κ ν) : T κ ν := match last l with
  | none => r
  | some (l', k, v) => join l' k v r
section
variable (lt : κ → κ → Bool)
def get (k : κ) : T κ ν → Option ν
  | nil => none
  | node l k' v r => if lt k k' then get k l else if lt k' k then get k r else some v
def put (k : κ) (v : ν) : T κ ν → T κ ν
  | nil => node nil k v nil
  | node l k' v' r => if lt k k' then join (put k v l) k' v' r else if lt k' k then join l k' v' (put k v r) else node l k v r
def del (k : κ) : T κ ν → T κ ν × Bool
  | nil => (nil, false)
  | node l k' v r =>
    if lt k k' then (if (del k l).2 then (join (del k l).1 k' v r, true) else (node l k' v r, false))
    else if lt k' k then (if (del k r).2 then (join l k' v (del k r).1, true) else (node l k' v r, false))
    else (both l r, true)
def rank (k : κ) : T κ ν → Nat
  | nil => 0
  | node l k' _ r => if lt k' k then l.size + 1 + rank k r else rank k l
def splitL (k : κ) : T κ ν → T κ ν
  | nil => nil
  | node l k' v r => if lt k' k then join l k' v (splitL k r) else splitL k l
def splitR (k : κ) : T κ ν → T κ ν
  | nil => nil
  | node l k' v r => if lt k' k then splitR k r else join (splitR k l) k' v r
end
def at_ (i : Int) : T κ ν → Option (κ × ν)
  | nil => none
  | node l k v r => if i < l.size then at_ i l else if i = l.size then some (k, v) else at_ (i - (l.size + 1)) r

theorem toList_turnL : ∀ t : T κ ν, (turnL t).toList = t.toList
  | nil => rfl
  | node a k v nil => rfl
  | node a k v (node b k' v' c) => by simp [turnL, toList]
theorem toList_turnR : ∀ t : T κ ν, (turnR t).toList = t.toList
  | nil => rfl
  | node nil k v c => rfl
  | node (node a k v b) k' v' c => by simp [turnR, toList]
theorem toList_fixL (ll : T κ ν) (k : κ) (v : ν) (u : T κ ν) : (fixL ll k v u).toList = ll.toList ++ (k, v) :: u.toList := by
  unfold fixL
  split
  · rw [toList_turnL]; split <;> simp [toList, toList_turnR]
  · rfl
theorem toList_fixR (u : T κ ν) (k : κ) (v : ν) (rr : T κ ν) : (fixR u k v rr).toList = u.toList ++ (k, v) :: rr.toList := by
  unfold fixR
  split
  · rw [toList_turnR]; split <;> simp [toList, toList_turnL]
  · rfl
theorem length_toList : ∀ t : T κ ν, t.toList.length = t.size
  | nil => rfl
  | node l k v r => by simp [toList, size, length_toList l, length_toList r]; omega
theorem toList_join (l : T κ ν) (k : κ) (v : ν) (r : T κ ν) : (join l k v r).toList = l.toList ++ (k, v) :: r.toList := by
  obtain ⟨n, hn⟩ : ∃ n, n = l.size + r.size := ⟨_, rfl⟩
  induction n using Nat.strongRecOn generalizing l r with
  | ind n ih =>
    by_cases h : r.depth + 1 < l.depth
    · cases l with
      | nil => simp [depth] at h
      | node ll lk lv lr =>
        rw [join_L h, toList_fixL, ih _ (by subst hn; simp only [size]; omega) lr r rfl]
        simp [toList]
    · by_cases h' : l.depth + 1 < r.depth
      · cases r with
        | nil => simp [depth] at h'
        | node rl rk rv rr =>
          rw [join_R h', toList_fixR, ih _ (by subst hn; simp only [size]; omega) l rl rfl]
          simp [toList]
      · rw [join_0 h h']; rfl
theorem size_join (l : T κ ν) (k : κ) (v : ν) (r : T κ ν) : (join l k v r).size = l.size + 1 + r.size := by
  rw [← length_toList, toList_join]; simp [length_toList]; omega
theorem size_turnL (t : T κ ν) : (turnL t).size = t.size := by rw [← length_toList, toList_turnL, length_toList]
theorem size_turnR (t : T κ ν) : (turnR t).size = t.size := by rw [← length_toList, toList_turnR, length_toList]
theorem depth_le : ∀ t : T κ ν, t.depth ≤ t.size
  | nil => Nat.le_refl _
  | node l k v r => by have := depth_le l; have := depth_le r; simp only [depth, size]; omega
theorem size_pos {t : T κ ν} (h : 0 < t.depth) : 0 < t.size := Nat.lt_of_lt_of_le h (depth_le t)
section
variable (lt : κ → κ → Bool)
theorem size_put (k : κ) (v : ν) : ∀ t : T κ ν, t.size ≤ (put lt k v t).size ∧ (put lt k v t).size ≤ t.size + 1
  | nil => by simp [put, size]
  | node l k' v' r => by
    have h1 := size_put k v l
    have h2 := size_put k v r
    unfold put
    split
    · rw [size_join]; simp only [size]; omega
    · split
      · rw [size_join]; simp only [size]; omega
      · simp only [size]; omega
end
end T
end Go.Proofs.Ytmichnnkkpgpmaa
