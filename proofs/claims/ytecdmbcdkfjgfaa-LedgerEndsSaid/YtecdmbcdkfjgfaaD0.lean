/- What Step computes. -/
import Derived.Test.YtecdmbcdkfjgfaaA1
import Derived.Test.YtecdmbcdkfjgfaaL
namespace Go.Proofs.Ytecdmbcdkfjgfaa
open Go.RowKit

def rightB (ph k : Int) : Bool :=
  if k = 1 ∨ k = 2 then decide (ph = 1) else if k = 3 ∨ k = 5 then decide (ph = 2) else if k = 4 then (decide (ph = 0) || decide (ph = 5) || decide (ph = 4))
  else if k = 6 ∨ k = 8 then decide (ph = 4) else decide (ph = 3)
/-- What a record makes of a ledger, ahead of the last look at it. -/
def madeL (s : Int) (l : Lg) (k re rp : Int) : Lg :=
  if k = 2 then ⟨2, l.ep + 1, rp⟩ else if k = 3 then ⟨1, l.ep + 1, s⟩ else if k = 4 then ⟨4, re, rp⟩ else if k = 5 then ⟨3, l.ep, l.pe⟩
  else if k = 6 then ⟨1, l.ep, s⟩ else if k = 7 ∨ k = 8 then ⟨5, l.ep, l.pe⟩ else l
def stepF (s : Int) (l : Lg) (k re rp : Int) : Lg × Int :=
  if !validB s l.ph l.ep l.pe || decide (k < 1) || decide (8 < k) then (⟨0, 0, 0⟩, 2)
  else if !rightB l.ph k then (⟨0, 0, 0⟩, 150)
  else if (k = 2 ∧ 1073741822 < l.ep) ∨ (k = 4 ∧ (re ≤ l.ep ∨ 1073741824 ≤ re)) then (⟨0, 0, 0⟩, 151)
  else if validB s (madeL s l k re rp).ph (madeL s l k re rp).ep (madeL s l k re rp).pe then (madeL s l k re rp, 0) else (⟨0, 0, 0⟩, 152)

end Go.Proofs.Ytecdmbcdkfjgfaa
