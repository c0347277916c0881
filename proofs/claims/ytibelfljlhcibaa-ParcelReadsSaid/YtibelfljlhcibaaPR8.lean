/- Readers: Real, behind take. -/
import Derived.Test.YtibelfljlhcibaaPR7
namespace Go.Proofs.Ytibelfljlhcibaa
set_option linter.unusedVariables false
set_option linter.unusedSimpArgs false
open Go.RowKit Go.Deep Go.Proofs.YtibelfljlhcibaaW.PrintLast

theorem real_eq (s : RS) (h : s.ft = 0) : s.real = (match (realO s).1 with | none => (0, (realO s).2.short) | some b => if (realO s).2.ft = 0 then (b, (realO s).2) else (0, (realO s).2)) := by
  unfold RS.real realO
  rw [if_pos h]
  cases hn : s.next 8 with
  | none => rfl
  | some q =>
    obtain ⟨p, s1⟩ := q
    have hf : s1.ft = 0 := by
      unfold RS.next at hn
      split at hn
      · injection hn with hn; injection hn with _ h2; subst h2; exact h
      · cases hn
    simp only
    by_cases hc : cleanBits (upN p.reverse) = upN p.reverse
    · rw [if_pos hc, if_pos hc, if_pos hf]
    · rw [if_neg hc, if_neg hc]
      rw [if_neg (show ¬ (11 : Int) = 0 by decide)]
section
variable {w w' w1 w2 : World} {F G : Nat → Prop} {k : Nat} {s s' : RS}
set_option maxHeartbeats 1000000 in
theorem rReal_any (h : RLies w F k s) (hb : Byt s.left) (h63 : s.left.length ≤ 140737488355328) :
    Calls Try.prog 28 #[.pointer (some ⟨k, 0, none⟩)] w fun e w' => e = .returned (.float .f64 s.real.1) ∧ UpdR F k w w' s.real.2 := by
  have hmf : ∀ (fn : Fn) (first cap : Array Value) (w : World), (Instr.makeFunc fn first cap).run Try.prog w = .ok (.func fn first cap) w := fun _ _ _ _ => rfl
  have B1 : Below w.heap.size w (w.alloc (.cells #[.pointer (some ⟨k, 0, none⟩)] 28)) := (Below.refl _ _).alloc (Nat.le_refl _) _
  have BZ := blk_new w (.cells #[.pointer (some ⟨k, 0, none⟩)] 28)
  have z0 := cell_blk BZ 0 rfl
  have TK := Lib.hid (take_f64 false (h.tight.below B1) (f := 69) (first := #[]) (cap := #[.pointer (some ⟨w.heap.size, 0, none⟩)]) Try.func69 (by kernel_rfl) rfl (realO s).2 (realO s).1.isSome (fun x _ => x = (realO s).1.getD 0) (fun _ _ _ hx _ => hx)
    (fun h0 wd hB hz hL => (real1_any (cell_blk (blk_below BZ hB) 0 rfl) hL hb h63 (fun hf => by have : w.heap.size < w.heap.size := hf.1.2; omega)).mono fun e w' hn => ⟨hn.1.n false, by
      have h2 := hn.2
      cases ho : (realO s).1 with
      | none => rw [ho] at h2; exact h2
      | some n => rw [ho] at h2; exact ⟨_, h2, rfl⟩⟩))
  have HH := Lib.hid h
  have HB1 := Lib.hid B1
  have TE := Lib.hid (fun h => real_eq s h)
  clear h hb B1 BZ
  go_enter Try.func28, Try.ntmps28
  go_wp2_with (fail)
  refine TK.out.mono ?_
  rintro e w2 ht
  have hr : e = .returned (.float .f64 s.real.1) ∧ UpdR F k w w2 s.real.2 := by
    unfold TakeP_f64 at ht
    by_cases h0 : s.ft = 0
    · rw [if_pos h0] at ht
      rw [TE.out h0]
      cases ho : (realO s).1 with
      | none =>
        rw [ho] at ht
        simp only [Option.isSome_none, Bool.false_eq_true, false_and, if_false] at ht
        exact ⟨ht.1, UpdR.after HB1.out (ht.2.strict.mono fun _ h => h.1)⟩
      | some p =>
        rw [ho] at ht
        simp only [Option.isSome_some, true_and, if_true] at ht
        by_cases h1 : (realO s).2.ft = 0
        · rw [if_pos h1] at ht
          obtain ⟨⟨x, rfl, rfl⟩, hu⟩ := ht
          simp only [h1, if_true]
          exact ⟨by trivial, UpdR.after HB1.out (hu.strict.mono fun _ h => h.1)⟩
        · rw [if_neg h1] at ht
          simp only [h1, if_false]
          exact ⟨ht.1, UpdR.after HB1.out (ht.2.strict.mono fun _ h => h.1)⟩
    · rw [if_neg h0] at ht
      have : s.real = (0, s) := by unfold RS.real; rw [if_neg h0]
      rw [this]
      exact ⟨ht.1, UpdR.of_below HH.out (HB1.out.trans (ht.2.mono HB1.out.size))⟩
  obtain ⟨rfl, hu⟩ := hr
  have HU := Lib.hid hu
  clear hu ht
  go_wp2_with (fail)
  go_ret
  exact ⟨rfl, HU.out⟩
end
end Go.Proofs.Ytibelfljlhcibaa
