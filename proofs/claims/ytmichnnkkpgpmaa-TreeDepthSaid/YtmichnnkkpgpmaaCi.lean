/- cmp.Compare, cmp.Less of ints. -/
import Derived.Test.YtmichnnkkpgpmaaM1
import Derived.Test.YtmichnnkkpgpmaaS
namespace Go.Proofs.Ytmichnnkkpgpmaa
set_option linter.unusedVariables false
set_option linter.unusedSimpArgs false
open Go.RowKit Go.Deep
def ltZ (a b : Int) : Bool := decide (a < b)
theorem ltZ_iff (a b : Int) : ltZ a b = true ↔ a < b := by simp [ltZ]
theorem ltZ_no (a b : Int) : ltZ a b = false ↔ b ≤ a := by simp [ltZ]
set_option maxHeartbeats 400000 in
theorem cmp_lt {a b : Int} (h : ltZ a b = true) (w : World) : Calls Try.prog 62 #[.int .i64 a, .int .i64 b] w fun e w' => e = .returned (.int .i64 (-1)) ∧ w = w' := by
  have h1 := (ltZ_iff a b).1 h
  go_enter Try.func62, Try.ntmps62
  go_wp2
  all_goals (go_ret; first | exact ⟨rfl, rfl⟩ | (exfalso; omega))
set_option maxHeartbeats 400000 in
theorem cmp_gt {a b : Int} (h : ltZ b a = true) (w : World) : Calls Try.prog 62 #[.int .i64 a, .int .i64 b] w fun e w' => e = .returned (.int .i64 1) ∧ w = w' := by
  have h1 := (ltZ_iff b a).1 h
  have h2 : ¬ a < b := by omega
  go_enter Try.func62, Try.ntmps62
  go_wp2
  all_goals (go_ret; first | exact ⟨rfl, rfl⟩ | (exfalso; omega))
set_option maxHeartbeats 400000 in
theorem cmp_eq {a b : Int} (h : ltZ a b = false) (h' : ltZ b a = false) (w : World) : Calls Try.prog 62 #[.int .i64 a, .int .i64 b] w fun e w' => e = .returned (.int .i64 0) ∧ w = w' := by
  have h1 := (ltZ_no a b).1 h
  have h2 := (ltZ_no b a).1 h'
  have h3 : ¬ a < b := by omega
  have h4 : ¬ b < a := by omega
  go_enter Try.func62, Try.ntmps62
  go_wp2
  all_goals (go_ret; first | exact ⟨rfl, rfl⟩ | (exfalso; omega))
set_option maxHeartbeats 400000 in
theorem less_any (a b : Int) (w : World) : Calls Try.prog 64 #[.int .i64 a, .int .i64 b] w fun e w' => e = .returned (.bool (ltZ a b)) ∧ w = w' := by
  obtain ⟨t, ht⟩ := named (decide (a < b))
  have H := Lib.hid ht
  go_enter Try.func64, Try.ntmps64
  go_wp2
  all_goals
    go_ret
    exact ⟨by unfold ltZ; rw [H.out]; rfl, rfl⟩
end Go.Proofs.Ytmichnnkkpgpmaa
