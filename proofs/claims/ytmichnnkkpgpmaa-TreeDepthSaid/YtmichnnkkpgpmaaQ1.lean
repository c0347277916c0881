/- Rows of trees that are made of one another: plain law. -/
import Derived.Test.YtmichnnkkpgpmaaM3
import Derived.Test.YtmichnnkkpgpmaaCi
namespace Go.Proofs.Ytmichnnkkpgpmaa
set_option linter.unusedVariables false
set_option linter.unusedSimpArgs false

theorem swoZ : Swo ltZ := ⟨fun a => by simp [ltZ], fun h h' => by simp [ltZ] at *; omega, fun h h' => by simp [ltZ] at *; omega⟩
theorem eqvZ (a b : Int) : T.eqv ltZ a b = (a == b) := by
  unfold T.eqv ltZ
  by_cases h : a = b
  · subst h; simp
  · have : (a == b) = false := by simpa using h
    rw [this]
    simp only [Bool.and_eq_false_iff, Bool.not_eq_false', decide_eq_true_eq]; omega
abbrev TI : Type := T Int Int
structure OpV where
  kind : Int
  from_ : Int
  key : Int
  value : Int
def rnd (x : Int) (n : Nat) : Nat := (x % (n : Int)).toNat
theorem rnd_lt (x : Int) {n : Nat} (h : 0 < n) : rnd x n < n := by
  unfold rnd
  have := Int.emod_lt_of_pos x (show (0 : Int) < n by omega)
  have := Int.emod_nonneg x (show (n : Int) ≠ 0 by omega)
  omega
def nth (l : List TI) (x : Int) : TI := l.getD (rnd x l.length) .nil
def stepL (l : List TI) (o : OpV) : List TI :=
  if o.kind = 0 then l ++ [T.put ltZ o.key o.value (nth l o.from_)]
  else if o.kind = 1 then l ++ [(T.del ltZ o.key (nth l o.from_)).1]
  else if o.kind = 6 then l ++ [T.splitL ltZ o.key (nth l o.from_), T.splitR ltZ o.key (nth l o.from_)]
  else if o.kind = 7 then (if T.meets ltZ (nth l o.from_).toList (nth l o.key).toList then l ++ [T.both (nth l o.from_) (nth l o.key)] else l)
  else l
def madeL (ops : List OpV) : List TI := ops.foldl stepL [.nil]
/-- A tree of the keys K. -/
structure Good (K : List Int) (t : TI) : Prop where
  rises : T.Rises ltZ t.toList
  bal : T.Bal t
  keys : ∀ e ∈ t.toList, e.1 ∈ K
theorem size_keys : ∀ (l : List (Int × Int)) (K : List Int), T.Rises ltZ l → (∀ e ∈ l, e.1 ∈ K) → l.length ≤ K.length
  | [], _, _, _ => Nat.zero_le _
  | e :: l, K, h, hk => by
    unfold T.Rises at h
    rw [List.pairwise_cons] at h
    have h1 := hk e (List.mem_cons_self)
    have h2 := size_keys l (K.erase e.1) h.2 (fun f hf => by
      refine (List.mem_erase_of_ne ?_).2 (hk f (List.mem_cons_of_mem _ hf))
      have := h.1 f hf
      intro hc
      rw [hc] at this
      simp [ltZ] at this)
    rw [List.length_erase_of_mem h1] at h2
    have : 0 < K.length := List.length_pos_of_mem h1
    simp only [List.length_cons]; omega
theorem Good.size {K : List Int} {t : TI} (h : Good K t) : t.size ≤ K.length := by
  rw [← T.length_toList]; exact size_keys _ _ h.rises h.keys
theorem Good.more {K K' : List Int} {t : TI} (h : Good K t) (hk : ∀ k ∈ K, k ∈ K') : Good K' t := ⟨h.rises, h.bal, fun e he => hk _ (h.keys e he)⟩
theorem Good.nil {K : List Int} : Good K .nil := ⟨List.Pairwise.nil, trivial, fun e he => by cases he⟩
theorem Good.put {K : List Int} {t : TI} (h : Good K t) (k v : Int) : Good (k :: K) (T.put ltZ k v t) := by
  refine ⟨T.rises_put swoZ h.rises, T.bal_put ltZ k v t h.bal, fun e he => ?_⟩
  rw [T.toList_put swoZ k v t h.rises] at he
  rcases List.mem_append.1 he with he | he
  · exact List.mem_cons_of_mem _ (h.keys e (T.mem_und.1 he).1)
  · rcases List.mem_cons.1 he with rfl | he
    · exact List.mem_cons_self
    · exact List.mem_cons_of_mem _ (h.keys e (T.mem_ovr.1 he).1)
theorem Good.del {K : List Int} {t : TI} (h : Good K t) (k : Int) : Good K (T.del ltZ k t).1 := by
  have := (T.del_law swoZ k t h.rises).1
  exact ⟨by rw [this]; exact h.rises.sans_, T.bal_del ltZ k t h.bal, fun e he => by rw [this] at he; exact h.keys e (List.mem_filter.1 he).1⟩
theorem Good.splitL {K : List Int} {t : TI} (h : Good K t) (k : Int) : Good K (T.splitL ltZ k t) := by
  have := T.toList_splitL swoZ k t h.rises
  exact ⟨by rw [this]; exact h.rises.und_, (T.bal_split ltZ k t h.bal).1, fun e he => by rw [this] at he; exact h.keys e (List.mem_filter.1 he).1⟩
theorem Good.splitR {K : List Int} {t : TI} (h : Good K t) (k : Int) : Good K (T.splitR ltZ k t) := by
  have := T.toList_splitR swoZ k t h.rises
  exact ⟨by rw [this]; exact h.rises.from_', (T.bal_split ltZ k t h.bal).2, fun e he => by rw [this] at he; exact h.keys e (List.mem_filter.1 he).1⟩
theorem rises_append {a b : List (Int × Int)} (ha : T.Rises ltZ a) (hb : T.Rises ltZ b) (hm : T.meets ltZ a b = true) : T.Rises ltZ (a ++ b) := by
  unfold T.Rises at *
  refine List.pairwise_append.2 ⟨ha, hb, fun x hx y hy => ?_⟩
  obtain ⟨z, hz⟩ : ∃ z, a.getLast? = some z := by
    cases h : a.getLast? with
    | none => rw [List.getLast?_eq_none_iff] at h; subst h; cases hx
    | some z => exact ⟨z, rfl⟩
  obtain ⟨u, hu⟩ : ∃ u, b.head? = some u := by
    cases h : b.head? with
    | none => rw [List.head?_eq_none_iff] at h; subst h; cases hy
    | some u => exact ⟨u, rfl⟩
  unfold T.meets at hm
  rw [hz, hu] at hm
  have h1 : x = z ∨ ltZ x.1 z.1 = true := by
    obtain ⟨a', rfl⟩ : ∃ a', a = a' ++ [z] := by
      obtain ⟨a', rfl⟩ := List.getLast?_eq_some_iff.1 hz
      exact ⟨a', rfl⟩
    rcases List.mem_append.1 hx with h | h
    · exact Or.inr ((List.pairwise_append.1 ha).2.2 x h z (List.mem_singleton.2 rfl))
    · exact Or.inl (List.mem_singleton.1 h)
  have h2 : y = u ∨ ltZ u.1 y.1 = true := by
    cases b with
    | nil => cases hy
    | cons u' b' =>
      simp only [List.head?_cons, Option.some.injEq] at hu
      subst hu
      rcases List.mem_cons.1 hy with h | h
      · exact Or.inl h
      · exact Or.inr ((List.pairwise_cons.1 hb).1 y h)
  have h3 : ltZ x.1 u.1 = true := by
    rcases h1 with rfl | h1
    · exact hm
    · exact swoZ.tr h1 hm
  rcases h2 with rfl | h2
  · exact h3
  · exact swoZ.tr h3 h2
theorem Good.both {K : List Int} {a b : TI} (ha : Good K a) (hb : Good K b) (hm : T.meets ltZ a.toList b.toList = true) : Good K (T.both a b) := by
  refine ⟨by rw [T.toList_both]; exact rises_append ha.rises hb.rises hm, T.bal_both _ _ ha.bal hb.bal, fun e he => ?_⟩
  rw [T.toList_both] at he
  rcases List.mem_append.1 he with h | h
  · exact ha.keys e h
  · exact hb.keys e h
theorem nth_mem {l : List TI} (h : l ≠ []) (x : Int) : nth l x ∈ l := by
  have hp : 0 < l.length := List.length_pos_iff.2 h
  have := rnd_lt x hp
  unfold nth
  rw [List.getD_eq_getElem?_getD, List.getElem?_eq_getElem this]
  exact List.getElem_mem this
theorem nth_at {l : List TI} (h : l ≠ []) (x : Int) : l[rnd x l.length]? = some (nth l x) := by
  have hp : 0 < l.length := List.length_pos_iff.2 h
  have := rnd_lt x hp
  unfold nth
  rw [List.getD_eq_getElem?_getD, List.getElem?_eq_getElem this]
  rfl
structure GoodL (K : List Int) (l : List TI) : Prop where
  ne : l ≠ []
  all : ∀ t ∈ l, Good K t
theorem GoodL.step {K : List Int} {l : List TI} (h : GoodL K l) (o : OpV) : GoodL (o.key :: K) (stepL l o) ∧ (stepL l o).length ≤ l.length + 2 := by
  have hn := h.all _ (nth_mem h.ne o.from_)
  have hn2 := h.all _ (nth_mem h.ne o.key)
  have more : ∀ t, Good K t → Good (o.key :: K) t := fun t ht => ht.more fun k hk => List.mem_cons_of_mem _ hk
  have app : ∀ r : List TI, (∀ t ∈ r, Good (o.key :: K) t) → GoodL (o.key :: K) (l ++ r) := fun r hr => ⟨by simp [h.ne], fun t ht => by
    rcases List.mem_append.1 ht with ht | ht
    · exact more t (h.all t ht)
    · exact hr t ht⟩
  unfold stepL
  split
  · exact ⟨app _ fun t ht => by rw [List.mem_singleton.1 ht]; exact hn.put _ _, by simp⟩
  · split
    · exact ⟨app _ fun t ht => by rw [List.mem_singleton.1 ht]; exact more _ (hn.del _), by simp⟩
    · split
      · exact ⟨app _ fun t ht => by
          simp only [List.mem_cons, List.not_mem_nil, or_false] at ht
          rcases ht with rfl | rfl
          · exact more _ (hn.splitL _)
          · exact more _ (hn.splitR _), by simp⟩
      · split
        · split
          · exact ⟨app _ fun t ht => by rw [List.mem_singleton.1 ht]; exact more _ (hn.both hn2 (by assumption)), by simp⟩
          · exact ⟨⟨h.ne, fun t ht => more t (h.all t ht)⟩, by omega⟩
        · exact ⟨⟨h.ne, fun t ht => more t (h.all t ht)⟩, by omega⟩
/-- The row's places: what is below a key, and the rest. -/
theorem und_from : ∀ (l : List (Int × Int)) (k : Int), T.Rises ltZ l → l = T.und ltZ k l ++ T.from_ ltZ k l
  | [], _, _ => rfl
  | e :: l, k, h => by
    unfold T.Rises at h
    rw [List.pairwise_cons] at h
    rw [T.und_cons, T.from_cons]
    cases hc : ltZ e.1 k with
    | true =>
      simp only [if_pos rfl, Bool.not_true]
      have := und_from l k h.2
      simp only [Bool.false_eq_true, if_false, if_true, List.cons_append]
      exact congrArg (e :: ·) this
    | false =>
      have h1 : T.und ltZ k l = [] := T.filter_none fun f hf => by
        have := h.1 f hf
        simp [ltZ] at this hc ⊢; omega
      have h2 : T.from_ ltZ k l = l := T.filter_all fun f hf => by
        have := h.1 f hf
        simp [ltZ] at this hc ⊢; omega
      rw [h1, h2]; simp
end Go.Proofs.Ytmichnnkkpgpmaa
