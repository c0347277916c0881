/- The contract of Hear. -/
import Derived.Test.YtecdmbcdkfjgfaaA1
namespace Go.Proofs.Ytecdmbcdkfjgfaa
open Go.RowKit

def hearF (s ph ep pe k e f : Int) : Int × Int :=
  if !validB s ph ep pe || !srvB f || decide (f = s) then (0, 0) else
  if k = 3 then
    (if ph = 4 ∧ ep = e ∧ pe = f then (0, 4)
     else if (ph = 4 ∨ ph = 0 ∨ ph = 5) ∧ ep < e ∧ e < 1073741824 then (4, 4) else (0, 0))
  else if k = 4 then
    (if ep = e ∧ pe = f ∧ ph = 2 then (5, 5) else if ep = e ∧ pe = f ∧ ph = 3 then (0, 5) else if e < ep then (0, 7) else (0, 0))
  else if k = 5 then
    (if ep = e ∧ pe = f ∧ ph = 4 then (6, 6) else if ep = e ∧ ph = 4 then (0, 0) else if e ≤ ep then (0, 6) else (0, 0))
  else if k = 6 then (if ep = e ∧ pe = f ∧ ph = 3 then (7, 0) else (0, 0))
  else if k = 7 then (if ep = e ∧ pe = f ∧ ph = 4 then (8, 0) else (0, 0))
  else if k = 8 then (if ep = e ∧ pe = f ∧ ph = 2 then (3, 0) else (0, 0))
  else (0, 0)

set_option maxHeartbeats 4000000 in
theorem hear_any (s ph ep pe k e f : Int) (w : World) :
    Calls Try.prog 10 #[.int .i64 s, .agg #[.int .i64 ph, .int .i64 ep, .int .i64 pe], .int .i64 k, .int .i64 e, .int .i64 f] w fun en w' => en = .returned (.tuple #[.int .i64 (hearF s ph ep pe k e f).1, .int .i64 (hearF s ph ep pe k e f).2]) ∧ Below w.heap.size w w' := by
  go_enter Try.func10, Try.ntmps10
  go_wp2_with (first | (go_at_call 30; refine (isServer_any _ _).mono ?_; rintro e w' ⟨rfl, rfl⟩) | (go_at_call 29; refine (valid_any _ _ _ _ _).mono ?_; rintro e w' ⟨rfl, hb⟩; obtain ⟨hc, hf⟩ := bcell hb))
  all_goals
    go_ret2
    refine ⟨ret_ii ?_ ?_, (((Below.refl _ _).alloc (Nat.le_refl _) _)).trans (hb.mono (by simp))⟩
    all_goals
      go_light
      grind [hearF]
end Go.Proofs.Ytecdmbcdkfjgfaa
