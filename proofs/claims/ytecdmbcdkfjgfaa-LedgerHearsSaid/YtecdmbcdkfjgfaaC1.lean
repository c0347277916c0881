/- LedgerHears: for every list of cases the program's Hear answers as the document's. -/
import Derived.Test.YtecdmbcdkfjgfaaK
import Derived.Test.YtecdmbcdkfjgfaaR
import Derived.Test.YtecdmbcdkfjgfaaB4
namespace Go.Proofs.Ytecdmbcdkfjgfaa
open Go.RowKit

theorem hasL_054 (ph : Int) : hasL [48, 53, 52] ph = (decide (ph = 0) || (decide (ph = 5) || decide (ph = 4))) := by simp [hasL, eq_comm]
theorem hasL_2 (ph : Int) : hasL [50] ph = decide (ph = 2) := by simp [hasL, eq_comm]
theorem hasL_3 (ph : Int) : hasL [51] ph = decide (ph = 3) := by simp [hasL, eq_comm]
theorem hasL_4 (ph : Int) : hasL [52] ph = decide (ph = 4) := by simp [hasL, eq_comm]
theorem hasL_all (ph : Int) : hasL [48, 49, 50, 51, 52, 53] ph = (decide (ph = 0) || (decide (ph = 1) || (decide (ph = 2) || (decide (ph = 3) || (decide (ph = 4) || decide (ph = 5)))))) := by simp [hasL, eq_comm]
theorem valid_ph {s ph ep pe : Int} (h : validB s ph ep pe = true) : 0 ≤ ph ∧ ph ≤ 5 := by
  unfold validB at h; grind

set_option maxHeartbeats 4000000 in
theorem refHear_eq (s ph ep pe k e f : Int) : refHearF s ph ep pe k e f = hearF s ph ep pe k e f := by
  by_cases hp : refPre s ph ep pe k e f = true
  · unfold refHearF; rw [if_pos hp]
    unfold hearF
    unfold refPre at hp
    split
    · rfl
    · grind
  · unfold refHearF; rw [if_neg hp]
    have hv : validB s ph ep pe = true := by unfold refPre at hp; grind
    have hf : srvB f = true := by unfold refPre at hp; grind
    have hn : ¬ f = s := by unfold refPre at hp; grind
    have hk : k = 3 → e < 1073741824 ∨ e ≤ ep := by unfold refPre at hp; grind
    have hph := valid_ph hv
    unfold hearF
    rw [if_neg (by simp [hv, hf, hn])]
    simp only [ansGo, answersL, skipB, stB, List.toList_toArray, hasL_054, hasL_2, hasL_3, hasL_4, hasL_all]
    by_cases h3 : k = 3
    · subst h3; grind
    · by_cases h4 : k = 4
      · subst h4; grind
      · by_cases h5 : k = 5
        · subst h5; grind
        · by_cases h6 : k = 6
          · subst h6; grind
          · by_cases h7 : k = 7
            · subst h7; grind
            · by_cases h8 : k = 8
              · subst h8; grind
              · grind
end Go.Proofs.Ytecdmbcdkfjgfaa
