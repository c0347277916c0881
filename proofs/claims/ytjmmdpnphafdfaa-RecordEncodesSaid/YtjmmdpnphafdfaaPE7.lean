/- The reference's reader: Done. -/
import Derived.Test.YtjmmdpnphafdfaaPE6
namespace Go.Proofs.Ytjmmdpnphafdfaa
set_option linter.unusedVariables false
set_option linter.unusedSimpArgs false
open Go.RowKit Go.Deep Go.Proofs.YtjmmdpnphafdfaaW.PrintLast

section
variable {w w' : World} {F G : Nat → Prop} {k : Nat} {s : RS}
end
end Go.Proofs.Ytjmmdpnphafdfaa
