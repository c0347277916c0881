/- What the reference's has says of its phases. -/
import Derived.Test.YtecdmbcdkfjgfaaB2
namespace Go.Proofs.Ytecdmbcdkfjgfaa
theorem hasL_054 (ph : Int) : hasL [48, 53, 52] ph = (decide (ph = 0) || (decide (ph = 5) || decide (ph = 4))) := by simp [hasL, eq_comm]
theorem hasL_2 (ph : Int) : hasL [50] ph = decide (ph = 2) := by simp [hasL, eq_comm]
theorem hasL_3 (ph : Int) : hasL [51] ph = decide (ph = 3) := by simp [hasL, eq_comm]
theorem hasL_4 (ph : Int) : hasL [52] ph = decide (ph = 4) := by simp [hasL, eq_comm]
theorem hasL_all (ph : Int) : hasL [48, 49, 50, 51, 52, 53] ph = (decide (ph = 0) || (decide (ph = 1) || (decide (ph = 2) || (decide (ph = 3) || (decide (ph = 4) || decide (ph = 5)))))) := by simp [hasL, eq_comm]
end Go.Proofs.Ytecdmbcdkfjgfaa
