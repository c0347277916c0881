/- Slices that a call owns: a block whose first cells are the elements' cells; what a store, an allocation and append leave of it. -/
import Derived.Test.YtibelfljlhcibaaK
import Derived.Test.YtibelfljlhcibaaR
import Derived.Deep.AppendLies
import Derived.Deep.AppendSrc
import Derived.Deep.Upon
import Derived.Deep.MidRow
import Derived.OwnWalk
namespace Go.Proofs.Ytibelfljlhcibaa
set_option linter.unusedVariables false
set_option linter.unusedSimpArgs false
open Go.RowKit Go.Deep

/-- Block g holds, from its head on, the elements xs, sz cells each; there is room for cap. -/
structure Own {α : Type} (enc : α → List Value) (e sz : Nat) (w : World) (g cap : Nat) (xs : List α) : Prop where
  le : xs.length ≤ cap
  max : cap ≤ maxLen
  blk : ∃ cur : Array Value, w.heap[g]? = some (.cells cur e (0, 0)) ∧ cur.size = cap * sz ∧ ∀ i x, xs[i]? = some x → ∀ j v, (enc x)[j]? = some v → cur[i * sz + j]? = some v

theorem flat_get {α : Type} {enc : α → List Value} {sz : Nat} (hsz : 0 < sz) (henc : ∀ x, (enc x).length = sz) : ∀ (xs : List α) (k : Nat), (xs.flatMap enc)[k]? = (xs[k / sz]?).bind fun x => (enc x)[k % sz]?
  | [], k => by simp
  | x :: xs, k => by
    rw [List.flatMap_cons]
    by_cases hk : k < sz
    · rw [List.getElem?_append_left (by rw [henc]; exact hk), Nat.div_eq_of_lt hk, Nat.mod_eq_of_lt hk]
      rfl
    · have hk' : sz ≤ k := by omega
      rw [List.getElem?_append_right (by rw [henc]; exact hk'), henc, flat_get hsz henc xs (k - sz)]
      have h1 : k / sz = (k - sz) / sz + 1 := by rw [Nat.div_eq_sub_div hsz hk']
      have h2 : k % sz = (k - sz) % sz := Nat.mod_eq_sub_mod hk'
      rw [h1, h2, List.getElem?_cons_succ]
theorem flat_len {α : Type} {enc : α → List Value} {sz : Nat} (henc : ∀ x, (enc x).length = sz) : ∀ (xs : List α), (xs.flatMap enc).length = xs.length * sz
  | [] => by simp
  | x :: xs => by rw [List.flatMap_cons, List.length_append, henc, flat_len henc xs, List.length_cons, Nat.succ_mul, Nat.add_comm]

section
variable {α : Type} {enc : α → List Value} {e sz : Nat} {w : World} {g cap : Nat} {xs : List α}
theorem Own.lt (h : Own enc e sz w g cap xs) : g < w.heap.size := by
  obtain ⟨cur, hg, _⟩ := h.blk
  exact blk_lt hg
theorem Own.cell (h : Own enc e sz w g cap xs) {i : Nat} {x : α} (hx : xs[i]? = some x) {j : Nat} {v : Value} (hv : (enc x)[j]? = some v) : w.cell? ⟨g, i * sz + j, none⟩ = some v := by
  obtain ⟨cur, hg, _, hc⟩ := h.blk
  exact cell_blk hg _ (hc i x hx j v hv)
theorem Own.free (h : Own enc e sz w g cap xs) (o : Nat) : w.frozen? ⟨g, o, none⟩ = false := by
  obtain ⟨cur, hg, _⟩ := h.blk
  exact free_blk hg o
theorem Own.moved {w' : World} (h : Own enc e sz w g cap xs) (hb : w'.heap[g]? = w.heap[g]?) : Own enc e sz w' g cap xs := by
  obtain ⟨cur, hg, h1⟩ := h.blk
  exact ⟨h.le, h.max, cur, hb.trans hg, h1⟩
theorem Own.below {w' : World} (h : Own enc e sz w g cap xs) (hb : Below w.heap.size w w') : Own enc e sz w' g cap xs := h.moved (hb.block g h.lt)
theorem Own.grown {w' : World} {row : Option Nat} (h : Own enc e sz w g cap xs) (hg : w.grownBy w' row) (hne : some g ≠ row) : Own enc e sz w' g cap xs := h.moved (hg.block g h.lt hne)
theorem Own.alloc (h : Own enc e sz w g cap xs) (o : Obj) : Own enc e sz (w.alloc o) g cap xs := h.moved (Below.heap_alloc w o g h.lt)
theorem Own.drew (h : Own enc e sz w g cap xs) : Own enc e sz w.drew g cap xs := h.moved rfl
theorem Own.other (h : Own enc e sz w g cap xs) {a : Addr} (hne : g ≠ a.block) (u : Value) : Own enc e sz (w.setCell a u) g cap xs := h.moved (Below.heap_setCell w a u g hne)
theorem Own.fresh (w : World) (hm : cap ≤ maxLen) (cur : Array Value) (hs : cur.size = cap * sz) (xs : List α) (hle : xs.length ≤ cap) (hc : ∀ i x, xs[i]? = some x → ∀ j v, (enc x)[j]? = some v → cur[i * sz + j]? = some v) :
    Own enc e sz (w.alloc (.cells cur e)) w.heap.size cap xs := ⟨hle, hm, cur, heap_alloc_new w _, hs, hc⟩
/-- A cut: the first n elements. -/
theorem Own.take (h : Own enc e sz w g cap xs) (n : Nat) : Own enc e sz w g cap (xs.take n) := by
  obtain ⟨cur, hg, h1, h2⟩ := h.blk
  refine ⟨by have := h.le; rw [List.length_take]; omega, h.max, cur, hg, h1, fun i x hx => h2 i x ?_⟩
  rw [List.getElem?_take] at hx
  split at hx
  · exact hx
  · cases hx
theorem Own.toRow (hsz : 0 < sz) (henc : ∀ x, (enc x).length = sz) (h : Own enc e sz w g cap xs) : w.ownsRow 0 e sz (.slice (some ⟨g, 0, none⟩) xs.length cap) xs.length (xs.flatMap enc) := by
  obtain ⟨cur, hg, h1, h2⟩ := h.blk
  refine ⟨flat_len henc xs, Or.inr ⟨g, cap, cur, rfl, Nat.zero_le _, hg, h.le, h.max, h1, ?_⟩⟩
  have hle : xs.length * sz ≤ cap * sz := Nat.mul_le_mul_right _ h.le
  apply List.ext_getElem?
  intro k
  rw [flat_get hsz henc, List.getElem?_take]
  have hk := Nat.div_add_mod k sz
  by_cases hlt : k < xs.length * sz
  · rw [if_pos hlt]
    have hi : k / sz < xs.length := (Nat.div_lt_iff_lt_mul hsz).2 hlt
    rw [List.getElem?_eq_getElem hi]
    have hj : k % sz < (enc xs[k / sz]).length := by rw [henc]; exact Nat.mod_lt _ hsz
    have := h2 (k / sz) _ (List.getElem?_eq_getElem hi) (k % sz) _ (List.getElem?_eq_getElem hj)
    rw [show k / sz * sz + k % sz = k by rw [Nat.mul_comm]; exact hk] at this
    simp only [Option.bind_some, List.getElem?_eq_getElem hj]
    simpa using this
  · rw [if_neg hlt]
    have hi : xs.length ≤ k / sz := by
      rcases Nat.lt_or_ge (k / sz) xs.length with h' | h'
      · exact absurd ((Nat.div_lt_iff_lt_mul hsz).1 h') hlt
      · exact h'
    rw [List.getElem?_eq_none hi]; rfl
theorem Own.ofRow (hsz : 0 < sz) (henc : ∀ x, (enc x).length = sz) (h : w.ownsRow 0 e sz (.slice (some ⟨g, 0, none⟩) xs.length cap) xs.length (xs.flatMap enc)) : Own enc e sz w g cap xs := by
  obtain ⟨hl, h0 | ⟨g', cap', cur, hv, _, hg, hle, hm, hs, ht⟩⟩ := h
  · cases h0.1
  · simp only [Value.slice.injEq, Option.some.injEq, Addr.mk.injEq, and_true] at hv
    obtain ⟨rfl, _, rfl⟩ := hv
    refine ⟨hle, hm, cur, hg, hs, fun i x hx j v hv => ?_⟩
    have hi : i < xs.length := (List.getElem?_eq_some_iff.1 hx).1
    have hj : j < sz := by have := (List.getElem?_eq_some_iff.1 hv).1; rw [henc] at this; exact this
    have hk : i * sz + j < xs.length * sz := by
      have : (i + 1) * sz ≤ xs.length * sz := Nat.mul_le_mul_right _ hi
      rw [Nat.succ_mul] at this; omega
    have h1 := flat_get hsz henc xs (i * sz + j)
    have h2 : (i * sz + j) / sz = i := by rw [Nat.add_comm, Nat.add_mul_div_right _ _ hsz, Nat.div_eq_of_lt hj, Nat.zero_add]
    have h3 : (i * sz + j) % sz = j := by rw [Nat.add_comm, Nat.add_mul_mod_self_right, Nat.mod_eq_of_lt hj]
    rw [h2, h3, hx, Option.bind_some, hv, ← ht, List.getElem?_take, if_pos hk] at h1
    simpa using h1
theorem setCell_heap (w : World) (g o : Nat) (v : Value) (cur : Array Value) (e : TypeId) (fr : Nat × Nat) (h : w.heap[g]? = some (.cells cur e fr)) : (w.setCell ⟨g, o, none⟩ v).heap[g]? = some (.cells (cur.setIfInBounds o v) e fr) := by
  simp only [World.setCell, Array.getElem?_modify, if_true, h, Option.map_some, Option.isSome_none, Bool.false_eq_true, if_false]
/-- Three cells of element i written. -/
theorem Own.set3 {a b c : Value} (henc : ∀ x, (enc x).length = 3) (h : Own enc e 3 w g cap xs) {i : Nat} (hi : i < xs.length) {y : α} (hy : enc y = [a, b, c]) :
    Own enc e 3 (((w.setCell ⟨g, i * 3, none⟩ a).setCell ⟨g, i * 3 + 1, none⟩ b).setCell ⟨g, i * 3 + 2, none⟩ c) g cap (xs.set i y) := by
  obtain ⟨cur, hg, h1, h2⟩ := h.blk
  have hle := h.le
  refine ⟨by rw [List.length_set]; exact hle, h.max, _, setCell_heap _ g _ _ _ _ _ (setCell_heap _ g _ _ _ _ _ (setCell_heap _ g _ _ _ _ _ hg)), by simpa using h1, fun i' x hx j v hv => ?_⟩
  have hsz : i * 3 + 2 < cur.size := by rw [h1]; omega
  rw [List.getElem?_set] at hx
  by_cases hii : i = i'
  · subst hii
    rw [if_pos rfl, if_pos hi] at hx
    obtain rfl := Option.some.inj hx
    rw [hy] at hv
    have hj : j < 3 := (List.getElem?_eq_some_iff.1 hv).1
    rcases (by omega : j = 0 ∨ j = 1 ∨ j = 2) with rfl | rfl | rfl
    all_goals
      simp at hv; subst hv
      simp only [Array.getElem?_setIfInBounds, Array.size_setIfInBounds]
      (repeat' split) <;> first | rfl | omega | exact absurd trivial (by assumption)
  · rw [if_neg hii] at hx
    have hj : j < 3 := by have := (List.getElem?_eq_some_iff.1 hv).1; rw [henc] at this; exact this
    simp only [Array.getElem?_setIfInBounds, Array.size_setIfInBounds]
    (repeat' split) <;> first | exact h2 i' x hx j v hv | omega
/-- append onto a slice of one's own. -/
theorem own_append {P : Program} (t ty : TypeId) {i : TypeInfo} {z : Value} {bytes : Nat} (ht : P.underlying t = some (.slice e)) (hi : P.info? e = some i) (hz : i.zero = some z)
    (hsize : i.size = sz) (hby : i.bytes = bytes) (hzs : z.cells.size = sz) (hsz : 0 < sz) (henc : ∀ x, (enc x).length = sz) (hone : ∀ x, ∀ u ∈ enc x, u.oneCell' = true)
    (h : Own enc e sz w g cap xs) (ys : List α) (A : Option Addr) (c : Nat) (hys : ys ≠ [] → ∃ B O, A = some ⟨B, O, none⟩ ∧ ∀ (k : Nat) y, ys[k]? = some y → ∀ j v, (enc y)[j]? = some v → w.cell? ⟨B, O + k * sz + j, none⟩ = some v)
    (h63 : xs.length + ys.length ≤ maxLen) (hbytes : (xs.length + ys.length) * bytes ≤ 140737488355328) :
    ∃ g' cap' w', (Builtin.append_ #[t, t] ty #[.slice (some ⟨g, 0, none⟩) xs.length cap, .slice A ys.length c]).run P w = .ok (.slice (some ⟨g', 0, none⟩) (xs.length + ys.length) cap') w' ∧
      Own enc e sz w' g' cap' (xs ++ ys) ∧ w.grownBy w' (some g) ∧ (g' = g ∨ g' = w.heap.size) := by
  by_cases hne : ys = []
  · subst hne
    have hsrc : Src P i.size t (.slice A 0 c) 0 [] w := by
      cases A with
      | none => exact Src.ofNil w ht c
      | some a => exact Src.ofSlice w ht a 0 c [] (by simp) (by simp) (by simp)
    refine ⟨g, cap, w, ?_, by simpa using h, ⟨rfl, rfl, rfl, Nat.le_refl _, fun _ _ _ => rfl⟩, Or.inl rfl⟩
    simpa using run_append_nothing (P := P) w t t ty e i ht hi (some ⟨g, 0, none⟩) xs.length cap h.le (.slice A 0 c) hsrc
  · obtain ⟨B, O, rfl, hcells⟩ := hys hne
    have hpos : 0 < ys.length := List.length_pos_iff.2 hne
    obtain ⟨g', cap', w', hr, hown, hgr, hat, hlt⟩ := run_append_lies (P := P) w t ty 0 e i z sz bytes ht hi hz hsize hby hzs hsz (.slice (some ⟨g, 0, none⟩) xs.length cap) xs.length (xs.flatMap enc) (h.toRow hsz henc)
      ⟨B, O, none⟩ ys.length c (ys.flatMap enc) (flat_len henc ys) (fun j u hu => by
        rw [flat_get hsz henc] at hu
        rw [Addr.add_mid]
        cases hy : ys[j / sz]? with
        | none => rw [hy] at hu; cases hu
        | some y =>
          rw [hy, Option.bind_some] at hu
          have := hcells (j / sz) y hy (j % sz) u hu
          have hk := Nat.div_add_mod j sz
          rw [show O + j / sz * sz + j % sz = O + j by rw [Nat.mul_comm (j / sz)]; omega] at this
          exact this) (fun u hu => by
        obtain ⟨y, _, hy⟩ := List.mem_flatMap.1 hu
        exact hone y u hy) hpos h63 hbytes (Nat.zero_le _) w.heap.size rfl
    refine ⟨g', cap', w', hr, ?_, hgr, ?_⟩
    · have := hown
      rw [← List.flatMap_append, ← List.length_append] at this
      exact Own.ofRow hsz henc this
    · rcases hat with hat | hat
      · left
        simp [Value.ownBlock] at hat
        exact hat.symm
      · exact Or.inr hat
end
/-- What a call of append computes, at the operation. -/
theorem runapp_ {P : Program} {o : Oper} {a : Act} {w w1 : World} {s x : Operand} {t ty : TypeId} {v y r : Value} (hr : (Builtin.append_ #[t, t] ty #[v, y]).run P w = .ok r w1)
    (ho : o.op = .call { callee := .builtin .append, args := #[s, x], argTypes := #[t, t] }) (hty : o.type = ty) (hs : a.eval s = v) (hx : a.eval x = y) : (execOp a.eval o).run P w = .ok (.value r) w1 := by
  subst hty
  unfold execOp
  simp only [ho, resolve, invoke, builtin, Sem.run_bind, Sem.run_pure, Result.andThen_ok, List.map_toArray, List.map_cons, List.map_nil, hs, hx, hr]
theorem wpList_app {P : Program} {ops : Array Oper} {rest : List Oper} {o : Oper} {a : Act} {w w1 : World} {Q : Exit → Act → World → Prop} {s x : Operand} {t ty : TypeId} {v y r : Value} (hr : (Builtin.append_ #[t, t] ty #[v, y]).run P w = .ok r w1)
    (hgd : o.guard = none) (ho : o.op = .call { callee := .builtin .append, args := #[s, x], argTypes := #[t, t] }) (hty : o.type = ty) (hs : a.eval s = v) (hx : a.eval x = y)
    (h : wpList P ops Q rest (a.put o.dst r) w1) : wpList P ops Q (o :: rest) a w :=
  wpList_plain hgd fun K hK => by
    unfold Oper.wp
    rw [runapp_ hr ho hty hs hx]
    exact hK _ _ h
end Go.Proofs.Ytibelfljlhcibaa
