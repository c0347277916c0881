/- Trees as plain data: what their rows are. -/
import Derived.Test.YtmichnnkkpgpmaaM1
namespace Go.Proofs.Ytmichnnkkpgpmaa
set_option linter.unusedVariables false
set_option linter.unusedSimpArgs false

structure Swo {κ : Type} (lt : κ → κ → Bool) : Prop where
  irr : ∀ a, lt a a = false
  tr : ∀ {a b c}, lt a b = true → lt b c = true → lt a c = true
  neg : ∀ {a b c}, lt a b = false → lt b c = false → lt a c = false
namespace Swo
variable {κ : Type} {lt : κ → κ → Bool} (S : Swo lt)
include S
theorem asym {a b : κ} (h : lt a b = true) : lt b a = false := by
  cases h' : lt b a with
  | false => rfl
  | true => have := S.tr h h'; rw [S.irr] at this; cases this
theorem lt_nlt {a b c : κ} (h : lt a b = true) (h' : lt c b = false) : lt a c = true := by
  cases h1 : lt a c with
  | true => rfl
  | false => have := S.neg h1 h'; rw [h] at this; cases this
theorem nlt_lt {a b c : κ} (h : lt b a = false) (h' : lt b c = true) : lt a c = true := by
  cases h1 : lt a c with
  | true => rfl
  | false => have := S.neg h h1; rw [h'] at this; cases this
end Swo
namespace T
variable {κ ν : Type}
section
variable (lt : κ → κ → Bool)
/-- The keys rise. -/
def Rises (l : List (κ × ν)) : Prop := l.Pairwise (fun a b => lt a.1 b.1 = true)
def und (k : κ) (l : List (κ × ν)) : List (κ × ν) := l.filter fun e => lt e.1 k
def ovr (k : κ) (l : List (κ × ν)) : List (κ × ν) := l.filter fun e => lt k e.1
def from_ (k : κ) (l : List (κ × ν)) : List (κ × ν) := l.filter fun e => !lt e.1 k
def eqv (a b : κ) : Bool := !lt a b && !lt b a
def look (k : κ) (l : List (κ × ν)) : Option ν := (l.find? fun e => eqv lt e.1 k).map (·.2)
def sans (k : κ) (l : List (κ × ν)) : List (κ × ν) := l.filter fun e => !eqv lt e.1 k
end
section
variable {lt : κ → κ → Bool} {k : κ} {l l' : List (κ × ν)}
theorem filter_all {α : Type} {p : α → Bool} {l : List α} (h : ∀ x ∈ l, p x = true) : l.filter p = l := List.filter_eq_self.2 h
theorem filter_none {α : Type} {p : α → Bool} {l : List α} (h : ∀ x ∈ l, p x = false) : l.filter p = [] := List.filter_eq_nil_iff.2 fun x hx => by rw [h x hx]; decide
theorem und_append : und lt k (l ++ l') = und lt k l ++ und lt k l' := List.filter_append ..
theorem ovr_append : ovr lt k (l ++ l') = ovr lt k l ++ ovr lt k l' := List.filter_append ..
theorem from_append : from_ lt k (l ++ l') = from_ lt k l ++ from_ lt k l' := List.filter_append ..
theorem sans_append : sans lt k (l ++ l') = sans lt k l ++ sans lt k l' := List.filter_append ..
theorem und_cons (e : κ × ν) : und lt k (e :: l) = if lt e.1 k then e :: und lt k l else und lt k l := List.filter_cons ..
theorem ovr_cons (e : κ × ν) : ovr lt k (e :: l) = if lt k e.1 then e :: ovr lt k l else ovr lt k l := List.filter_cons ..
theorem from_cons (e : κ × ν) : from_ lt k (e :: l) = if !lt e.1 k then e :: from_ lt k l else from_ lt k l := List.filter_cons ..
theorem sans_cons (e : κ × ν) : sans lt k (e :: l) = if !eqv lt e.1 k then e :: sans lt k l else sans lt k l := List.filter_cons ..
/-- What a sorted node says of its sides. -/
theorem Rises.node {a : T κ ν} {k : κ} {v : ν} {b : T κ ν} (h : Rises lt (T.node a k v b).toList) : Rises lt a.toList ∧ Rises lt b.toList ∧ (∀ e ∈ a.toList, lt e.1 k = true) ∧ (∀ e ∈ b.toList, lt k e.1 = true) := by
  unfold Rises at h ⊢
  simp only [toList, List.pairwise_append, List.pairwise_cons, List.mem_cons] at h
  obtain ⟨h1, ⟨h2, h3⟩, h4⟩ := h
  exact ⟨h1, h3, fun e he => h4 e he (k, v) (Or.inl rfl), fun e he => h2 e he⟩
theorem Rises.mk {a : List (κ × ν)} {k : κ} {v : ν} {b : List (κ × ν)} (S : Swo lt) (h1 : Rises lt a) (h2 : Rises lt b) (h3 : ∀ e ∈ a, lt e.1 k = true) (h4 : ∀ e ∈ b, lt k e.1 = true) : Rises lt (a ++ (k, v) :: b) := by
  unfold Rises at *
  simp only [List.pairwise_append, List.pairwise_cons, List.mem_cons]
  refine ⟨h1, ⟨h4, h2⟩, ?_⟩
  rintro e he f (rfl | hf)
  · exact h3 e he
  · exact S.tr (h3 e he) (h4 f hf)
theorem Rises.und_ (h : Rises lt l) : Rises lt (und lt k l) := h.filter _
theorem Rises.ovr_ (h : Rises lt l) : Rises lt (ovr lt k l) := h.filter _
theorem Rises.from_' (h : Rises lt l) : Rises lt (from_ lt k l) := h.filter _
theorem Rises.sans_ (h : Rises lt l) : Rises lt (sans lt k l) := h.filter _
theorem mem_und {e : κ × ν} : e ∈ und lt k l ↔ e ∈ l ∧ lt e.1 k = true := List.mem_filter
theorem mem_ovr {e : κ × ν} : e ∈ ovr lt k l ↔ e ∈ l ∧ lt k e.1 = true := List.mem_filter
variable (S : Swo lt)
include S
theorem toList_put (k : κ) (v : ν) : ∀ (t : T κ ν), Rises lt t.toList → (put lt k v t).toList = und lt k t.toList ++ (k, v) :: ovr lt k t.toList
  | nil, _ => by simp [put, toList, und, ovr]
  | node a k' v' b, h => by
    obtain ⟨ha, hb, hak, hbk⟩ := h.node
    unfold put
    cases h1 : lt k k' with
    | true =>
      rw [if_pos rfl, toList_join, toList_put k v a ha]
      have hnb : ∀ e ∈ b.toList, lt e.1 k = false := fun e he => S.asym (S.tr h1 (hbk e he))
      have hab : ∀ e ∈ b.toList, lt k e.1 = true := fun e he => S.tr h1 (hbk e he)
      simp only [toList, und_append, ovr_append, und_cons, ovr_cons, h1, S.asym h1, if_pos rfl]
      rw [show und lt k b.toList = [] from filter_none hnb, show ovr lt k b.toList = b.toList from filter_all hab]
      simp
    | false =>
      rw [if_neg (by decide)]
      cases h2 : lt k' k with
      | true =>
        rw [if_pos rfl, toList_join, toList_put k v b hb]
        have hna : ∀ e ∈ a.toList, lt e.1 k = true := fun e he => S.tr (hak e he) h2
        have haa : ∀ e ∈ a.toList, lt k e.1 = false := fun e he => S.asym (S.tr (hak e he) h2)
        simp only [toList, und_append, ovr_append, und_cons, ovr_cons, h1, h2, if_pos rfl]
        rw [show und lt k a.toList = a.toList from filter_all hna, show ovr lt k a.toList = [] from filter_none haa]
        simp
      | false =>
        rw [if_neg (by decide)]
        have hna : ∀ e ∈ a.toList, lt e.1 k = true := fun e he => S.lt_nlt (hak e he) h1
        have hnb : ∀ e ∈ b.toList, lt k e.1 = true := fun e he => S.nlt_lt h2 (hbk e he)
        simp only [toList, und_append, ovr_append, und_cons, ovr_cons, h1, h2]
        rw [show und lt k a.toList = a.toList from filter_all hna, show ovr lt k a.toList = [] from filter_none (fun e he => S.asym (hna e he)), show und lt k b.toList = [] from filter_none (fun e he => S.asym (hnb e he)), show ovr lt k b.toList = b.toList from filter_all hnb]
        simp
theorem rises_put {k : κ} {v : ν} {t : T κ ν} (h : Rises lt t.toList) : Rises lt (put lt k v t).toList := by
  rw [toList_put S k v t h]
  exact Rises.mk S (Rises.und_ h) (Rises.ovr_ h) (fun e he => (mem_und.1 he).2) (fun e he => (mem_ovr.1 he).2)
theorem get_look (k : κ) : ∀ (t : T κ ν), Rises lt t.toList → get lt k t = look lt k t.toList
  | nil, _ => rfl
  | node a k' v b, h => by
    obtain ⟨ha, hb, hak, hbk⟩ := h.node
    unfold get look
    cases h1 : lt k k' with
    | true =>
      rw [if_pos rfl, get_look k a ha]
      have hnb : (List.find? (fun e => eqv lt e.1 k) b.toList) = none := List.find?_eq_none.2 fun e he => by
        have := S.tr h1 (hbk e he)
        simp [eqv, this]
      have hk : eqv lt k' k = false := by simp [eqv, h1]
      simp only [toList, List.find?_append, List.find?_cons, hnb, hk]
      simp [look]
    | false =>
      rw [if_neg (by decide)]
      cases h2 : lt k' k with
      | true =>
        rw [if_pos rfl, get_look k b hb]
        have hna : (List.find? (fun e => eqv lt e.1 k) a.toList) = none := List.find?_eq_none.2 fun e he => by
          have := S.tr (hak e he) h2
          simp [eqv, this]
        have hk : eqv lt k' k = false := by simp [eqv, h2]
        simp only [toList, List.find?_append, hna, List.find?_cons, hk]
        simp [look]
      | false =>
        rw [if_neg (by decide)]
        have hna : (List.find? (fun e => eqv lt e.1 k) a.toList) = none := List.find?_eq_none.2 fun e he => by
          have := S.lt_nlt (hak e he) h1
          simp [eqv, this]
        have hk : eqv lt k' k = true := by simp [eqv, h1, h2]
        simp only [toList, List.find?_append, hna, List.find?_cons, hk]
        simp
theorem rank_und (k : κ) : ∀ (t : T κ ν), Rises lt t.toList → rank lt k t = (und lt k t.toList).length
  | nil, _ => rfl
  | node a k' v b, h => by
    obtain ⟨ha, hb, hak, hbk⟩ := h.node
    unfold rank
    cases h1 : lt k' k with
    | true =>
      rw [if_pos rfl, rank_und k b hb]
      simp only [toList, und_append, und_cons, h1, if_pos rfl]
      rw [show und lt k a.toList = a.toList from filter_all (fun e he => S.tr (hak e he) h1)]
      simp [length_toList]; omega
    | false =>
      rw [if_neg (by decide), rank_und k a ha]
      simp only [toList, und_append, und_cons, h1]
      rw [show und lt k b.toList = [] from filter_none (fun e he => by
        cases h2 : lt e.1 k with
        | false => rfl
        | true => have := S.tr (hbk e he) h2; rw [h1] at this; cases this)]
      simp
theorem toList_splitL (k : κ) : ∀ (t : T κ ν), Rises lt t.toList → (splitL lt k t).toList = und lt k t.toList
  | nil, _ => rfl
  | node a k' v b, h => by
    obtain ⟨ha, hb, hak, hbk⟩ := h.node
    unfold splitL
    cases h1 : lt k' k with
    | true =>
      rw [if_pos rfl, toList_join, toList_splitL k b hb]
      simp only [toList, und_append, und_cons, h1, if_pos rfl]
      rw [show und lt k a.toList = a.toList from filter_all (fun e he => S.tr (hak e he) h1)]
      simp
    | false =>
      rw [if_neg (by decide), toList_splitL k a ha]
      simp only [toList, und_append, und_cons, h1]
      rw [show und lt k b.toList = [] from filter_none (fun e he => by
        cases h2 : lt e.1 k with
        | false => rfl
        | true => have := S.tr (hbk e he) h2; rw [h1] at this; cases this)]
      simp
theorem toList_splitR (k : κ) : ∀ (t : T κ ν), Rises lt t.toList → (splitR lt k t).toList = from_ lt k t.toList
  | nil, _ => rfl
  | node a k' v b, h => by
    obtain ⟨ha, hb, hak, hbk⟩ := h.node
    unfold splitR
    cases h1 : lt k' k with
    | true =>
      rw [if_pos rfl, toList_splitR k b hb]
      simp only [toList, from_append, from_cons, h1]
      rw [show from_ lt k a.toList = [] from filter_none (fun e he => by rw [S.tr (hak e he) h1]; rfl)]
      simp
    | false =>
      rw [if_neg (by decide), toList_join, toList_splitR k a ha]
      simp only [toList, from_append, from_cons, h1]
      rw [show from_ lt k b.toList = b.toList from filter_all (fun e he => by
        cases h2 : lt e.1 k with
        | false => rfl
        | true => have := S.tr (hbk e he) h2; rw [h1] at this; cases this)]
      simp
end
theorem last_none : ∀ (t : T κ ν), last t = none → t = nil
  | nil, _ => rfl
  | node a k v b, h => by
    unfold last at h
    split at h <;> cases h
theorem last_toList : ∀ (t t' : T κ ν) (k : κ) (v : ν), last t = some (t', k, v) → t.toList = t'.toList ++ [(k, v)]
  | nil, _, _, _, h => by cases h
  | node a k' v' b, t', k, v, h => by
    unfold last at h
    split at h
    · rename_i hb
      have := last_none b hb
      subst this
      simp only [Option.some.injEq, Prod.mk.injEq] at h
      obtain ⟨rfl, rfl, rfl⟩ := h
      rfl
    · rename_i r' k1 v1 hb
      simp only [Option.some.injEq, Prod.mk.injEq] at h
      obtain ⟨rfl, rfl, rfl⟩ := h
      rw [toList_join, toList, last_toList b _ _ _ hb]
      simp
theorem toList_both (l r : T κ ν) : (both l r).toList = l.toList ++ r.toList := by
  unfold both
  split
  · rename_i h
    rw [last_none l h]; rfl
  · rename_i h
    rw [toList_join, last_toList l _ _ _ h]; simp
theorem size_both (l r : T κ ν) : (both l r).size = l.size + r.size := by
  rw [← length_toList, toList_both]; simp [length_toList]
section
variable {lt : κ → κ → Bool} (S : Swo lt)
include S
theorem del_law (k : κ) : ∀ (t : T κ ν), Rises lt t.toList → (del lt k t).1.toList = sans lt k t.toList ∧ (del lt k t).2 = t.toList.any (fun e => eqv lt e.1 k)
  | nil, _ => ⟨rfl, rfl⟩
  | node a k' v b, h => by
    obtain ⟨ha, hb, hak, hbk⟩ := h.node
    unfold del
    have key : ∀ (l : List (κ × ν)), (∀ e ∈ l, lt e.1 k = true ∨ lt k e.1 = true) → sans lt k l = l ∧ l.any (fun e => eqv lt e.1 k) = false := fun l hl =>
      ⟨filter_all fun e he => by rcases hl e he with h | h <;> simp [eqv, h], List.any_eq_false.2 fun e he => by rcases hl e he with h | h <;> simp [eqv, h]⟩
    cases h1 : lt k k' with
    | true =>
      rw [if_pos rfl]
      obtain ⟨i1, i2⟩ := del_law k a ha
      obtain ⟨j1, j2⟩ := key b.toList fun e he => Or.inr (S.tr h1 (hbk e he))
      have hk : eqv lt k' k = false := by simp [eqv, h1]
      split
      · rename_i hd
        rw [hd] at i2
        refine ⟨?_, ?_⟩
        · rw [toList_join, i1]; simp [toList, sans_append, sans_cons, hk, j1]
        · simp [toList, List.any_append, ← i2]
      · rename_i hd
        have hd : (del lt k a).2 = false := by simpa using hd
        rw [hd] at i2
        have i3 : sans lt k a.toList = a.toList := filter_all fun e he => by
          have := List.any_eq_false.1 i2.symm e he
          simpa using this
        refine ⟨?_, ?_⟩
        · simp [toList, sans_append, sans_cons, hk, j1, i3]
        · simp only [toList, List.any_append, List.any_cons, ← i2, j2, hk]; rfl
    | false =>
      rw [if_neg (by decide)]
      cases h2 : lt k' k with
      | true =>
        rw [if_pos rfl]
        obtain ⟨i1, i2⟩ := del_law k b hb
        obtain ⟨j1, j2⟩ := key a.toList fun e he => Or.inl (S.tr (hak e he) h2)
        have hk : eqv lt k' k = false := by simp [eqv, h2]
        split
        · rename_i hd
          rw [hd] at i2
          refine ⟨?_, ?_⟩
          · rw [toList_join, i1]; simp [toList, sans_append, sans_cons, hk, j1]
          · simp [toList, List.any_append, ← i2]
        · rename_i hd
          have hd : (del lt k b).2 = false := by simpa using hd
          rw [hd] at i2
          have i3 : sans lt k b.toList = b.toList := filter_all fun e he => by
            have := List.any_eq_false.1 i2.symm e he
            simpa using this
          refine ⟨?_, ?_⟩
          · simp [toList, sans_append, sans_cons, hk, j1, i3]
          · simp only [toList, List.any_append, List.any_cons, ← i2, j2, hk]; rfl
      | false =>
        rw [if_neg (by decide)]
        obtain ⟨j1, j2⟩ := key a.toList fun e he => Or.inl (S.lt_nlt (hak e he) h1)
        obtain ⟨j3, j4⟩ := key b.toList fun e he => Or.inr (S.nlt_lt h2 (hbk e he))
        have hk : eqv lt k' k = true := by simp [eqv, h1, h2]
        refine ⟨?_, ?_⟩
        · rw [toList_both]; simp [toList, sans_append, sans_cons, hk, j1, j3]
        · simp [toList, List.any_append, hk]
end
section
variable {lt : κ → κ → Bool} (S : Swo lt)
include S
/-- What is found behind a Put. -/
theorem look_put (k k' : κ) (v : ν) (l : List (κ × ν)) : look lt k' (und lt k l ++ (k, v) :: ovr lt k l) = if eqv lt k k' then some v else look lt k' l := by
  unfold look und ovr
  simp only [List.find?_append, List.find?_cons, List.find?_filter]
  have none_of : ∀ (p : κ × ν → Bool), (∀ e, p e = false) → l.find? p = none := fun p hp => List.find?_eq_none.2 fun e _ => by rw [hp e]; decide
  have same_of : ∀ (p q : κ × ν → Bool), (∀ e, p e = q e) → l.find? p = l.find? q := fun p q h => by rw [show p = q from funext h]
  cases h : eqv lt k k' with
  | true =>
    simp only [eqv, Bool.and_eq_true, Bool.not_eq_true'] at h
    rw [none_of _ (fun e => by
      cases h1 : lt e.1 k with
      | false => rfl
      | true => have := S.lt_nlt h1 h.2; simp [eqv, this])]
    simp
  | false =>
    rw [if_neg (by decide)]
    have h' : lt k k' = true ∨ lt k' k = true := by
      cases h1 : lt k k' with
      | true => exact Or.inl rfl
      | false => cases h2 : lt k' k with
        | true => exact Or.inr rfl
        | false => simp [eqv, h1, h2] at h
    rcases h' with h1 | h1
    · rw [none_of (fun e => decide (lt e.1 k = true ∧ eqv lt e.1 k' = true)) (fun e => by
        cases h2 : lt e.1 k with
        | false => simp
        | true => have := S.tr h2 h1; simp [eqv, this])]
      rw [same_of (fun e => decide (lt k e.1 = true ∧ eqv lt e.1 k' = true)) (fun e => eqv lt e.1 k') (fun e => by
        cases h2 : eqv lt e.1 k' with
        | false => simp
        | true =>
          simp only [eqv, Bool.and_eq_true, Bool.not_eq_true'] at h2
          simp [S.lt_nlt h1 h2.1])]
      simp
    · rw [none_of (fun e => decide (lt k e.1 = true ∧ eqv lt e.1 k' = true)) (fun e => by
        cases h2 : lt k e.1 with
        | false => simp
        | true => have := S.tr h1 h2; simp [eqv, this])]
      rw [same_of (fun e => decide (lt e.1 k = true ∧ eqv lt e.1 k' = true)) (fun e => eqv lt e.1 k') (fun e => by
        cases h2 : eqv lt e.1 k' with
        | false => simp
        | true =>
          simp only [eqv, Bool.and_eq_true, Bool.not_eq_true'] at h2
          simp [S.nlt_lt h2.2 h1])]
      simp
end
theorem at_list : ∀ (t : T κ ν) (i : Int), at_ i t = if 0 ≤ i then t.toList[i.toNat]? else none
  | nil, i => by simp [at_, toList]
  | node a k v b, i => by
    unfold at_
    have hl := length_toList a
    by_cases h : i < a.size
    · rw [if_pos h, at_list a i]
      by_cases h0 : 0 ≤ i
      · rw [if_pos h0, if_pos h0, toList, List.getElem?_append_left (by omega)]
      · rw [if_neg h0, if_neg h0]
    · rw [if_neg h, if_pos (by omega : (0 : Int) ≤ i)]
      by_cases h' : i = a.size
      · rw [if_pos h', toList, List.getElem?_append_right (by omega)]
        rw [show i.toNat - a.toList.length = 0 by omega]; rfl
      · rw [if_neg h', at_list b _, if_pos (by omega), toList, List.getElem?_append_right (by omega)]
        rw [show i.toNat - a.toList.length = (i - (a.size + 1)).toNat + 1 by omega, List.getElem?_cons_succ]
section
variable (lt : κ → κ → Bool)
theorem size_del (k : κ) : ∀ t : T κ ν, (del lt k t).1.size ≤ t.size
  | nil => Nat.le_refl _
  | node l k' v r => by
    have h1 := size_del k l
    have h2 := size_del k r
    unfold del
    (repeat' split) <;> simp only [size_join, size_both, size] <;> omega
theorem size_split (k : κ) : ∀ t : T κ ν, (splitL lt k t).size + (splitR lt k t).size = t.size
  | nil => rfl
  | node l k' v r => by
    have h1 := size_split k l
    have h2 := size_split k r
    unfold splitL splitR
    split <;> simp only [size_join, size] <;> omega
/-- May one row stand ahead of the other? -/
def meets (a b : List (κ × ν)) : Bool := match a.getLast?, b.head? with
  | some x, some y => lt x.1 y.1
  | _, _ => true
end
theorem at_last (l : T κ ν) (k : κ) (v : ν) (r : T κ ν) : ∃ x, at_ (((node l k v r).size : Int) - 1) (node l k v r) = some x ∧ (node l k v r).toList.getLast? = some x := by
  have hl := length_toList (node l k v r)
  have hp : 1 ≤ (node l k v r).size := by simp only [size]; omega
  rw [at_list, if_pos (by omega), List.getLast?_eq_getElem?, hl]
  have e : (((node l k v r).size : Int) - 1).toNat = (node l k v r).size - 1 := by omega
  rw [e]
  exact ⟨_, List.getElem?_eq_getElem (by omega), List.getElem?_eq_getElem (by omega)⟩
theorem at_first (l : T κ ν) (k : κ) (v : ν) (r : T κ ν) : ∃ x, at_ 0 (node l k v r) = some x ∧ (node l k v r).toList.head? = some x := by
  have hl := length_toList (node l k v r)
  have hp : 1 ≤ (node l k v r).size := by simp only [size]; omega
  rw [at_list, if_pos (by decide), List.head?_eq_getElem?]
  exact ⟨_, List.getElem?_eq_getElem (show (0 : Int).toNat < _ by simp; omega), List.getElem?_eq_getElem (by omega)⟩
section
variable (lt : κ → κ → Bool)
/-- The entries that From goes over. -/
def fromL (k : κ) : T κ ν → List (κ × ν)
  | nil => []
  | node l k' v r => if lt k' k then fromL k r else fromL k l ++ (k', v) :: r.toList
end
theorem fromL_law {lt : κ → κ → Bool} (S : Swo lt) (k : κ) : ∀ t : T κ ν, Rises lt t.toList → fromL lt k t = from_ lt k t.toList
  | nil, _ => rfl
  | node a k' v b, h => by
    obtain ⟨ha, hb, hak, hbk⟩ := h.node
    unfold fromL
    cases h1 : lt k' k with
    | true =>
      rw [if_pos rfl, fromL_law S k b hb]
      simp only [toList, from_append, from_cons, h1]
      rw [show from_ lt k a.toList = [] from filter_none (fun e he => by rw [S.tr (hak e he) h1]; rfl)]
      simp
    | false =>
      rw [if_neg (by decide), fromL_law S k a ha]
      simp only [toList, from_append, from_cons, h1]
      rw [show from_ lt k b.toList = b.toList from filter_all (fun e he => by
        cases h2 : lt e.1 k with
        | false => rfl
        | true => have := S.tr (hbk e he) h2; rw [h1] at this; cases this)]
      simp
end T
end Go.Proofs.Ytmichnnkkpgpmaa
