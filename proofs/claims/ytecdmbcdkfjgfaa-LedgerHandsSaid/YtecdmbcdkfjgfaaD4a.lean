/- Contracts: what a ledger is, by the program and by the reference. -/
import Derived.Test.YtecdmbcdkfjgfaaD3
namespace Go.Proofs.Ytecdmbcdkfjgfaa
set_option linter.unusedVariables false
set_option linter.unusedSimpArgs false
open Go.RowKit

set_option maxHeartbeats 400000 in
theorem refBegin_any (s h : Int) (w : World) :
    Calls Try.prog 39 #[.int .i64 s, .int .i64 h] w fun e w' => e = .returned (.agg #[.int .i64 (beginL s h).ph, .int .i64 (beginL s h).ep, .int .i64 (beginL s h).pe]) ∧ Below w.heap.size w w' := by
  have hb0 : s = h → beginL s h = ⟨1, 0, h⟩ := by intro e; subst e; simp [beginL]
  have hb1 : ¬ s = h → beginL s h = ⟨0, 0, h⟩ := by intro e; simp [beginL, e]
  by_cases h0 : s = h
  · have e0 : (s == h) = true := by simpa using h0
    have HB := Lib.hid (hb0 h0)
    clear hb0 hb1 h0
    go_enter Try.func39, Try.ntmps39
    go_wp2
    refine bodyPost_ret (v := .agg #[.int .i64 (beginL s h).ph, .int .i64 (beginL s h).ep, .int .i64 (beginL s h).pe]) ?_ rfl ⟨rfl, ?_⟩
    · rw [HB.out]; simp [results, Try.results39, go_sem, *]
    · repeat' (first | exact Below.refl _ _ | refine Below.drew ?_ | refine Below.alloc ?_ (by first | omega | (simp; done) | (simp; omega)) _ | refine Below.setCell ?_ (by first | omega | (simp; done) | (simp; omega)) _)
  · have e0 : (s == h) = false := by simpa using h0
    have HB := Lib.hid (hb1 h0)
    clear hb0 hb1 h0
    go_enter Try.func39, Try.ntmps39
    go_wp2
    refine bodyPost_ret (v := .agg #[.int .i64 (beginL s h).ph, .int .i64 (beginL s h).ep, .int .i64 (beginL s h).pe]) ?_ rfl ⟨rfl, ?_⟩
    · rw [HB.out]; simp [results, Try.results39, go_sem, *]
    · repeat' (first | exact Below.refl _ _ | refine Below.drew ?_ | refine Below.alloc ?_ (by first | omega | (simp; done) | (simp; omega)) _ | refine Below.setCell ?_ (by first | omega | (simp; done) | (simp; omega)) _)
set_option maxHeartbeats 400000 in
theorem refNag_any (ph ep pe : Int) (w : World) :
    Calls Try.prog 42 #[.agg #[.int .i64 ph, .int .i64 ep, .int .i64 pe]] w fun e w' => e = .returned (.int .i64 (nagF ph)) ∧ Below w.heap.size w w' := by
  go_enter Try.func42, Try.ntmps42
  go_wp2
  all_goals
    go_ret
    refine ⟨ret_i ?_, (Below.refl _ _).alloc (Nat.le_refl _) _⟩
    go_light
    grind [nagF]
def servesB (ph : Int) : Bool := ph == 1
def keepsB (ph : Int) : Bool := decide (1 ≤ ph) && decide (ph ≤ 4)
set_option maxHeartbeats 400000 in
theorem serves_any (ph ep pe : Int) (w : World) :
    Calls Try.prog 28 #[.agg #[.int .i64 ph, .int .i64 ep, .int .i64 pe]] w fun e w' => e = .returned (.bool (servesB ph)) ∧ Below w.heap.size w w' := by
  go_enter Try.func28, Try.ntmps28
  go_wp2
  all_goals
    go_ret
    exact ⟨rfl, (Below.refl _ _).alloc (Nat.le_refl _) _⟩
set_option maxHeartbeats 400000 in
theorem refServes_any (ph ep pe : Int) (w : World) :
    Calls Try.prog 40 #[.agg #[.int .i64 ph, .int .i64 ep, .int .i64 pe]] w fun e w' => e = .returned (.bool (servesB ph)) ∧ Below w.heap.size w w' := by
  go_enter Try.func40, Try.ntmps40
  go_wp2
  all_goals
    go_ret
    exact ⟨rfl, (Below.refl _ _).alloc (Nat.le_refl _) _⟩
set_option maxHeartbeats 400000 in
theorem keeps_any (ph ep pe : Int) (w : World) :
    Calls Try.prog 27 #[.agg #[.int .i64 ph, .int .i64 ep, .int .i64 pe]] w fun e w' => e = .returned (.bool (keepsB ph)) ∧ Below w.heap.size w w' := by
  go_enter Try.func27, Try.ntmps27
  go_wp2
  all_goals
    go_ret
    refine ⟨ret_b ?_, (Below.refl _ _).alloc (Nat.le_refl _) _⟩
    go_light
    grind [keepsB]
set_option maxHeartbeats 400000 in
theorem refKeeps_any (ph ep pe : Int) (w : World) :
    Calls Try.prog 41 #[.agg #[.int .i64 ph, .int .i64 ep, .int .i64 pe]] w fun e w' => e = .returned (.bool (keepsB ph)) ∧ Below w.heap.size w w' := by
  obtain ⟨b1, h1⟩ := named (ph == 1)
  obtain ⟨b2, h2⟩ := named (ph == 2)
  obtain ⟨b3, h3⟩ := named (ph == 3)
  obtain ⟨b4, h4⟩ := named (ph == 4)
  go_enter Try.func41, Try.ntmps41
  go_wp2
  all_goals
    go_ret
    refine ⟨ret_b ?_, (Below.refl _ _).alloc (Nat.le_refl _) _⟩
    go_light
    grind [keepsB]
end Go.Proofs.Ytecdmbcdkfjgfaa
