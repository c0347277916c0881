/- What made makes is good; places of a row: plain law. -/
import Derived.Test.YtmichnnkkpgpmaaQ1
namespace Go.Proofs.Ytmichnnkkpgpmaa
set_option linter.unusedVariables false
set_option linter.unusedSimpArgs false

theorem fold_good : ∀ (ops : List OpV) (l : List TI) (K : List Int), GoodL K l → ∃ K', GoodL K' (ops.foldl stepL l) ∧ K'.length = K.length + ops.length ∧ (ops.foldl stepL l).length ≤ l.length + 2 * ops.length
  | [], l, K, h => ⟨K, h, rfl, Nat.le_refl _⟩
  | o :: ops, l, K, h => by
    obtain ⟨h1, h2⟩ := h.step o
    obtain ⟨K', i1, i2, i3⟩ := fold_good ops (stepL l o) (o.key :: K) h1
    exact ⟨K', i1, by rw [i2]; simp only [List.length_cons]; omega, by simp only [List.foldl_cons, List.length_cons]; omega⟩
theorem made_good (ops : List OpV) : ∃ K, GoodL K (madeL ops) ∧ K.length ≤ ops.length ∧ (madeL ops).length ≤ 2 * ops.length + 1 := by
  obtain ⟨K, h1, h2, h3⟩ := fold_good ops [.nil] [] ⟨by simp, fun t ht => by rw [List.mem_singleton.1 ht]; exact Good.nil⟩
  exact ⟨K, h1, by rw [h2]; simp, by unfold madeL; simp only [List.length_singleton] at h3; omega⟩
section
variable {L : List (Int × Int)} (h : T.Rises ltZ L)
include h
theorem at_rank {key : Int} : L[(T.und ltZ key L).length]? = (T.from_ ltZ key L).head? := by
  have hs := und_from L key h
  obtain ⟨a, ha⟩ : ∃ a, a = T.und ltZ key L := ⟨_, rfl⟩
  obtain ⟨b, hb⟩ : ∃ b, b = T.from_ ltZ key L := ⟨_, rfl⟩
  rw [← ha, ← hb] at hs ⊢
  rw [hs, List.getElem?_append_right (Nat.le_refl _), Nat.sub_self, List.head?_eq_getElem?]
theorem look_head (key : Int) : T.look ltZ key L = match (T.from_ ltZ key L).head? with
    | some e => if e.1 = key then some e.2 else none
    | none => none := by
  have hf : T.Rises ltZ (T.from_ ltZ key L) := h.from_'
  have hu : ∀ e ∈ T.und ltZ key L, T.eqv ltZ e.1 key = false := fun e he => by
    have := (T.mem_und.1 he).2
    rw [eqvZ]; simp [ltZ] at this ⊢; omega
  have h1 : T.look ltZ key L = T.look ltZ key (T.from_ ltZ key L) := by
    conv => lhs; rw [und_from L key h]
    unfold T.look
    rw [List.find?_append, List.find?_eq_none.2 (fun e he => by rw [hu e he]; decide)]
    simp
  rw [h1]
  have hge : ∀ e ∈ T.from_ ltZ key L, key ≤ e.1 := fun e he => by
    have := (List.mem_filter.1 he).2
    simp [ltZ] at this; exact this
  cases hl : T.from_ ltZ key L with
  | nil => rfl
  | cons e r =>
    rw [hl] at hf hge
    unfold T.look
    simp only [List.head?_cons, List.find?_cons, eqvZ]
    by_cases he : e.1 = key
    · simp [he]
    · have h2 : (e.1 == key) = false := by simpa using he
      rw [h2, if_neg he]
      have h3 := hge e List.mem_cons_self
      rw [List.find?_eq_none.2 (fun f hfm => by
        have := (List.pairwise_cons.1 hf).1 f hfm
        simp [ltZ] at this ⊢; omega)]
      rfl
theorem rank_at {i : Nat} {k v : Int} (hi : L[i]? = some (k, v)) : (T.und ltZ k L).length = i ∧ T.look ltZ k L = some v := by
  have hlt := (List.getElem?_eq_some_iff.1 hi).1
  have hs : L = L.take i ++ (k, v) :: L.drop (i + 1) := by
    have := (List.getElem?_eq_some_iff.1 hi).2
    rw [← this, ← List.drop_eq_getElem_cons hlt, List.take_append_drop]
  have hp := h
  rw [hs] at hp
  unfold T.Rises at hp
  rw [List.pairwise_append] at hp
  obtain ⟨p1, p2, p3⟩ := hp
  have e1 : T.und ltZ k L = L.take i := by
    conv => lhs; rw [hs]
    rw [T.und_append, T.und_cons]
    rw [show T.und ltZ k (L.take i) = L.take i from T.filter_all fun e he => p3 e he (k, v) List.mem_cons_self]
    rw [show T.und ltZ k (L.drop (i + 1)) = [] from T.filter_none fun e he => by
      have := (List.pairwise_cons.1 p2).1 e he
      simp [ltZ] at this ⊢; omega]
    simp [ltZ]
  have e2 : (T.und ltZ k L).length = i := by rw [e1, List.length_take]; omega
  refine ⟨e2, ?_⟩
  rw [look_head h k, ← at_rank h, e2, hi]
  simp
omit h in
theorem from_ge {key : Int} {e : Int × Int} (he : (T.from_ ltZ key L).head? = some e) : key ≤ e.1 := by
  have : e ∈ T.from_ ltZ key L := List.mem_of_mem_head? (by rw [he]; rfl)
  have := (List.mem_filter.1 this).2
  simp [ltZ] at this; exact this
theorem und_last {key : Int} {n : Nat} (hn : (T.und ltZ key L).length = n + 1) : ∃ e, L[n]? = some e ∧ e.1 < key := by
  have hlt : n < (T.und ltZ key L).length := by omega
  refine ⟨(T.und ltZ key L)[n], ?_, ?_⟩
  · have hs := und_from L key h
    have h1 := List.getElem?_append_left (l₂ := T.from_ ltZ key L) hlt
    rw [← hs] at h1
    rw [h1]; exact List.getElem?_eq_getElem hlt
  · have := (T.mem_und.1 (List.getElem_mem hlt)).2
    simp [ltZ] at this; exact this
end
end Go.Proofs.Ytmichnnkkpgpmaa
