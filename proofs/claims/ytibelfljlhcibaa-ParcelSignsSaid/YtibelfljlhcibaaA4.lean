/- What the law's num answers. -/
import Derived.Test.YtibelfljlhcibaaA3
namespace Go.Proofs.Ytibelfljlhcibaa
set_option linter.unusedVariables false
set_option linter.unusedSimpArgs false
open Go.RowKit Go.Deep Go.Proofs.YtibelfljlhcibaaW.PrintLast

def NumP (w w' : World) (n : Nat) (room : Int) (e : Ending) : Prop := Below w.heap.size w w' ∧
  ((¬ ((formN n).length : Int) ≤ max room 0 ∧ e = .returned (.tuple #[.slice none 0 0, .int .i64 13])) ∨
   (((formN n).length : Int) ≤ max room 0 ∧ ∃ g, e = .returned (.tuple #[.slice (some ⟨g, 0, none⟩) (formN n).length (formN n).length, .int .i64 0]) ∧ w.heap.size ≤ g ∧ OwnB w' g (formN n).length (formN n)))
set_option maxRecDepth 100000 in
set_option maxHeartbeats 1000000 in
theorem num_any (n : Nat) (hn : n < 18446744073709551616) (room : Int) (hr : room ≤ 9223372036854775807) (w : World) :
    Calls Try.prog 14 #[.int .u64 n, .int .i64 room] w fun e w' => NumP w w' n room e := by
  have h10 := formN_len10 hn
  have NW := Lib.hid (new_any room w)
  have hm : 0 ≤ max room 0 ∧ max room 0 ≤ 9223372036854775807 := by omega
  go_enter Try.func14, Try.ntmps14
  go_wp2_with (fail)
  refine NW.out.mono ?_
  rintro e w1 ⟨rfl, A1, c1, W1, B1⟩
  have NM := Lib.hid (wNum_any W1 B1 B1.size (Nat.le_refl _) hm.1 hm.2 (by simp; omega) n hn (by simp))
  go_wp2_with (fail)
  refine NM.out.mono ?_
  rintro e w2 ⟨rfl, A2, c2, W2, B2⟩
  have hll : (layS (max room 0) [] 0 (formN n)).1.length ≤ 10 := by unfold layS; split <;> (try split) <;> simp <;> omega
  have DN := Lib.hid (wDone_any W2 (by omega))
  go_wp2_with (fail)
  refine DN.out.mono ?_
  rintro e w3 ⟨B3, hD⟩
  have B4 := B2.trans (B3.mono B2.size)
  by_cases hc : ((formN n).length : Int) ≤ max room 0
  · have hl : layS (max room 0) [] 0 (formN n) = (formN n, 0) := by
      unfold layS; rw [if_pos rfl, if_neg (by simp; omega)]; simp
    rw [hl] at hD
    rcases hD with ⟨h, _⟩ | ⟨_, h, _⟩ | ⟨_, _, g, rfl, hg, O⟩
    · exact absurd rfl h
    · omega
    · go_wp2_with (fail)
      refine bodyPost_ret (v := .tuple #[.slice (some ⟨g, 0, none⟩) (formN n).length (formN n).length, .int .i64 0]) (by simp [results, Try.results14, go_sem, *]) rfl ?_
      exact ⟨B4, Or.inr ⟨hc, g, rfl, Nat.le_trans B2.size hg, O⟩⟩
  · have hl : layS (max room 0) [] 0 (formN n) = ([], 13) := by
      unfold layS; rw [if_pos rfl, if_pos (by simp; omega)]
    rw [hl] at hD
    rcases hD with ⟨_, rfl⟩ | ⟨h, _⟩ | ⟨h, _⟩
    · go_wp2_with (fail)
      refine bodyPost_ret (v := .tuple #[.slice none 0 0, .int .i64 13]) (by simp [results, Try.results14, go_sem, *]) rfl ?_
      exact ⟨B4, Or.inl ⟨by omega, rfl⟩⟩
    · simp at h
    · simp at h
end Go.Proofs.Ytibelfljlhcibaa
