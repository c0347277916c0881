/- Lists that share no memory: plain laws of what 'apart' does to them. -/
import Derived.Test.YtibelfljlhcibaaPR1
import Derived.Test.YtibelfljlhcibaaPO
namespace Go.Proofs.Ytibelfljlhcibaa
set_option linter.unusedVariables false
set_option linter.unusedSimpArgs false
open Go.RowKit Go.Deep

theorem push_two {w : World} {g cap : Nat} {xs : List Int} (h : OwnB w g cap xs) (y : Int) (hl : xs.length + 1 ≤ 140737488355328) :
    ∃ A' c' w2, (Builtin.append_ #[23, 23] 23 #[.slice (some ⟨g, 0, none⟩) xs.length cap, .slice (some ⟨w.heap.size, 0, none⟩) 1 1]).run Try.prog (w.alloc (.cells #[.int .u8 y] 5)) = .ok (.slice A' (xs.length + 1) c') w2 ∧
      Fr (fun b => b = g) w w2 ∧ (∀ T, T ≠ 5 → KeepT T w w2) ∧
      ((A' = some ⟨g, 0, none⟩ ∧ c' = cap ∧ OwnB w2 g cap (xs ++ [y])) ∨ (∃ g', A' = some ⟨g', 0, none⟩ ∧ w.heap.size ≤ g' ∧ OwnB w2 g' c' (xs ++ [y]) ∧ Below w.heap.size w w2)) := by
  obtain ⟨A', c', w2, hr, G2, _, K2, h5⟩ := GRow.push (N := 0) (w0 := w) elBy (Or.inr ⟨g, rfl, Nat.zero_le _, h⟩) 23 y ((Below.refl 0 w)) (Nat.zero_le _) (by simp only [maxLen]; omega) (by omega)
  have hr0 : (Builtin.append_ #[23, 23] 23 #[.slice (some ⟨g, 0, none⟩) xs.length cap, .slice (some ⟨w.heap.size, 0, none⟩) 1 1]).run Try.prog (w.alloc (.cells #[.int .u8 y] 5)) = .ok (.slice A' (xs.length + 1) c') w2 := hr
  have hgl := h.lt
  have O1 : OwnB (w.alloc (.cells #[.int .u8 y] 5)) g cap xs := h.alloc _
  obtain ⟨cur, hcur, hsz, hc⟩ := O1.blk
  have hle := h.le
  have info := elBy.info
  have nb := blk_new w (.cells #[.int .u8 y] 5 (0, 0))
  have hsrc : ∀ j v, ([Value.int .u8 y] : List Value)[j]? = some v → (w.alloc (.cells #[.int .u8 y] 5)).cell? ((⟨w.heap.size, 0, none⟩ : Addr).add j) = some v := by
    intro j v hv
    rcases j with _ | j
    · simp at hv; subst hv
      exact cell_blk nb 0 rfl
    · simp at hv
  cases hi : Try.prog.info? 5 with
  | none => rw [hi] at info; cases info
  | some i =>
    rw [hi] at info
    simp only [Option.map_some, Option.some.injEq, Prod.mk.injEq] at info
    obtain ⟨i1, i2, i3⟩ := info
    have olds : ∀ j v, (xs.flatMap bc)[j]? = some v → (w.alloc (.cells #[.int .u8 y] 5)).cell? ((⟨g, 0, none⟩ : Addr).add j) = some v := by
      intro j v hv
      rw [flat_get (sz := 1) (by omega) (fun _ => rfl)] at hv
      rw [Nat.div_one, Nat.mod_one] at hv
      cases hx : xs[j]? with
      | none => rw [hx] at hv; cases hv
      | some x =>
        rw [hx, Option.bind_some] at hv
        have := O1.cell hx (j := 0) (v := v) hv
        rw [Addr.add_mid]
        simpa using this
    by_cases hroom : xs.length + 1 ≤ cap
    · have hr2 := run_append_room (P := Try.prog) (w.alloc (.cells #[.int .u8 y] 5)) 23 23 5 i elBy.ht hi g xs.length cap cur hcur ⟨w.heap.size, 0, none⟩ 1 1 [.int .u8 y] (by simp [i2]) hsrc (by simp [Value.oneCell']) hroom (by simp [i2]; omega)
      have he := hr0.symm.trans hr2
      injection he with e1 e2
      injection e1 with e3 e4 e5
      subst e3 e5
      have FR : Fr (fun b => b = g) w w2 := by
        rw [e2]
        exact (Fr.alloc (fun b => b = g) w _).trans ⟨rfl, rfl, rfl, by simp [World.setRow], fun b hb hne => setRow_other _ g b _ hne⟩ fun _ _ h => h
      refine ⟨_, _, w2, hr0, FR, K2, Or.inl ⟨rfl, rfl, ?_⟩⟩
      rcases G2 with ⟨h, _⟩ | ⟨g', h, _, h2⟩
      · cases h
      · injection h with h; injection h with h; subst h
        exact h2
    · have hr2 := run_append_grow (P := Try.prog) (w.alloc (.cells #[.int .u8 y] 5)) 23 23 5 i (.int .u8 0) elBy.ht hi i1 ⟨g, 0, none⟩ xs.length cap (xs.flatMap bc) (by rw [flat_len (sz := 1) (fun _ => rfl), i2]) olds ⟨w.heap.size, 0, none⟩ 1 1 [.int .u8 y] (by simp [i2]) hsrc (by omega) (by omega) (by
        rw [i3, Nat.mul_one]
        exact Nat.le_trans (nextslicecap_le (by omega)) (by omega))
      have he := hr0.symm.trans hr2
      injection he with e1 e2
      injection e1 with e3 e4 e5
      have BB : Below w.heap.size w w2 := by
        rw [e2]
        exact (((Below.refl w.heap.size w).alloc (Nat.le_refl _) _).drew).alloc (by simp) _
      refine ⟨A', c', w2, hr0, Fr.below _ BB, K2, Or.inr ⟨w.heap.size + 1, by rw [e3]; simp, by omega, ?_, BB⟩⟩
      rcases G2 with ⟨h, _⟩ | ⟨g', h, _, h2⟩
      · rw [e3] at h; cases h
      · rw [e3] at h
        injection h with h; injection h with h
        simp at h
        rw [h]; exact h2
end Go.Proofs.Ytibelfljlhcibaa
