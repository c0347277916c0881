/- One cell of a slice of one's own set; the lowest bytes of a number, one more. -/
import Derived.Test.YtibelfljlhcibaaPF
import Derived.Test.YtibelfljlhcibaaPM
import Derived.Test.YtibelfljlhcibaaY
namespace Go.Proofs.Ytibelfljlhcibaa
set_option linter.unusedVariables false
set_option linter.unusedSimpArgs false
open Go.RowKit Go.Deep

theorem Own.set1 {α : Type} {enc : α → List Value} {e : TypeId} {w : World} {g cap : Nat} {xs : List α} (h1 : ∀ x, (enc x).length = 1) (h : Own enc e 1 w g cap xs) {i : Nat} (hi : i < xs.length) {x : α} {v : Value} (hv : enc x = [v]) : Own enc e 1 (w.setCell ⟨g, i, none⟩ v) g cap (xs.set i x) := by
  obtain ⟨cur, hg, hc, hb⟩ := h.blk
  have hle := h.le
  refine ⟨by rw [List.length_set]; exact hle, h.max, _, setCell_heap _ g _ _ _ _ _ hg, by simpa using hc, fun j y hy q u hu => ?_⟩
  have hq : q = 0 := by
    have := (List.getElem?_eq_some_iff.1 hu).1
    rw [h1] at this; omega
  subst hq
  simp only [Nat.mul_one, Nat.add_zero]
  rw [List.getElem?_set] at hy
  rw [Array.getElem?_setIfInBounds]
  by_cases hij : i = j
  · subst hij
    rw [if_pos rfl, if_pos hi] at hy
    injection hy with hy; subst hy
    rw [hv] at hu
    simp at hu; subst hu
    rw [if_pos rfl, if_pos (by omega)]
  · rw [if_neg hij] at hy
    rw [if_neg hij]
    have := hb j y hy 0 u hu
    simpa using this
theorem grown_set (w : World) (g o : Nat) (v : Value) : w.grownBy (w.setCell ⟨g, o, none⟩ v) (some g) := ⟨rfl, rfl, rfl, by simp [World.setCell], fun j _ hj => Below.heap_setCell _ _ _ _ (by simpa using hj)⟩
theorem grown_trans {a b c : World} {k : Nat} (h : a.grownBy b (some k)) (h' : b.grownBy c (some k)) : a.grownBy c (some k) :=
  ⟨h'.os.trans h.os, h'.tape.trans h.tape, h'.output.trans h.output, Nat.le_trans h.size h'.size, fun j hj hne => (h'.block j (Nat.lt_of_lt_of_le hj h.size) hne).trans (h.block j hj hne)⟩
theorem grown_refl (w : World) (r : Option Nat) : w.grownBy w r := ⟨rfl, rfl, rfl, Nat.le_refl _, fun _ _ _ => rfl⟩
theorem lowN_succ : ∀ (i n : Nat), lowN (i + 1) n = lowN i n ++ [((n / 256 ^ i % 256 : Nat) : Int)]
  | 0, n => by simp [lowN]
  | i + 1, n => by
    rw [lowN, lowN_succ i (n / 256), lowN, List.cons_append]
    congr 3
    rw [Nat.div_div_eq_div_mul, Nat.pow_succ, Nat.mul_comm]
theorem lowN_mod : ∀ (k n b : Nat), k ≤ b → lowN k (n % 256 ^ b) = lowN k n
  | 0, _, _, _ => rfl
  | k + 1, n, b, h => by
    obtain ⟨c, rfl⟩ : ∃ c, b = c + 1 := ⟨b - 1, by omega⟩
    rw [lowN, lowN]
    have e1 : n % 256 ^ (c + 1) % 256 = n % 256 := by rw [Nat.pow_succ, Nat.mul_comm, Nat.mod_mul_right_mod]
    have e2 : n % 256 ^ (c + 1) / 256 = n / 256 % 256 ^ c := by rw [Nat.pow_succ, Nat.mul_comm, Nat.mod_mul_right_div_self]
    rw [e1, e2, lowN_mod k (n / 256) c (by omega)]
theorem low_step {ys : List Int} {x i : Nat} (hi : i < ys.length) : (lowN i x ++ ys.drop i).set i ((x / 256 ^ i % 256 : Nat) : Int) = lowN (i + 1) x ++ ys.drop (i + 1) := by
  rw [lowN_succ, List.append_assoc, List.set_append_right _ _ (by rw [lowN_len]; exact Nat.le_refl _), lowN_len, Nat.sub_self, List.drop_eq_getElem_cons hi]
  rfl
end Go.Proofs.Ytibelfljlhcibaa
