/- Contracts: the validity of ledgers, by the program and by the reference. -/
import Derived.Test.YtecdmbcdkfjgfaaK
namespace Go.Proofs.Ytecdmbcdkfjgfaa
open Go.RowKit

def srvB (n : Int) : Bool := decide (0 ≤ n) && decide (n < 8)

set_option maxHeartbeats 400000 in
theorem isServer_any (n : Int) (w : World) :
    Calls Try.prog 30 #[.int .i64 n] w fun e w' => e = .returned (.bool (srvB n)) ∧ w = w' := by
  go_enter Try.func30, Try.ntmps30
  go_wp2
  all_goals
    go_ret
    exact ⟨ret_b (by simp [srvB, *] <;> omega), rfl⟩

set_option maxHeartbeats 400000 in
theorem server_any (n : Int) (w : World) :
    Calls Try.prog 32 #[.int .i64 n] w fun e w' => e = .returned (.bool (srvB n)) ∧ w = w' := by
  go_enter Try.func32, Try.ntmps32
  go_wp2
  all_goals
    go_ret
    exact ⟨ret_b (by simp [srvB, *] <;> omega), rfl⟩

def validB (s ph ep pe : Int) : Bool :=
  srvB s && srvB pe && decide (0 ≤ ep) && decide (ep ≤ 1073741824) &&
  (if ph = 1 then decide (pe = s) else if ph = 0 then decide (pe ≠ s) && decide (ep = 0)
   else if ph = 2 then decide (pe ≠ s) && decide (0 < ep) && decide (ep < 1073741824)
   else if ph = 3 ∨ ph = 4 ∨ ph = 5 then decide (pe ≠ s) && decide (0 < ep) else false)

set_option maxHeartbeats 1000000 in
theorem valid_any (s ph ep pe : Int) (w : World) :
    Calls Try.prog 29 #[.int .i64 s, .agg #[.int .i64 ph, .int .i64 ep, .int .i64 pe]] w fun e w' => e = .returned (.bool (validB s ph ep pe)) ∧ Below w.heap.size w w' := by
  go_enter Try.func29, Try.ntmps29
  go_wp2_with (first | (go_at_call 30; refine (isServer_any _ _).mono ?_; rintro e w' ⟨rfl, rfl⟩))
  all_goals
    go_ret
    refine ⟨ret_b ?_, ((Below.refl _ _).alloc (Nat.le_refl _) _)⟩
    go_light
    grind [validB]

set_option maxHeartbeats 1000000 in
theorem refValid_any (s ph ep pe : Int) (w : World) :
    Calls Try.prog 31 #[.int .i64 s, .agg #[.int .i64 ph, .int .i64 ep, .int .i64 pe]] w fun e w' => e = .returned (.bool (validB s ph ep pe)) ∧ Below w.heap.size w w' := by
  go_enter Try.func31, Try.ntmps31
  go_wp2_with (first | (go_at_call 32; refine (server_any _ _).mono ?_; rintro e w' ⟨rfl, rfl⟩))
  all_goals
    go_ret
    refine ⟨ret_b ?_, ((Below.refl _ _).alloc (Nat.le_refl _) _)⟩
    go_light
    grind [validB]
end Go.Proofs.Ytecdmbcdkfjgfaa
