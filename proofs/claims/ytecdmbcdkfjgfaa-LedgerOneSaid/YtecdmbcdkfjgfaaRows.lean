/-
  No cell of these rows narrows 'for every input' (looked for: loops, veiled, ifaces, maps, wideKeys, modest, calm, conditions, laid).
  DERIVED. THE GIVEN ROWS OF THIS SEAT. 7 by the template 'for every input the law returns true; each argument reads behind the call as it read before'; 0 by the template 'total and deterministic' (their statements: YtecdmbcdkfjgfaaTotals.lean).
  GIVEN WITH THE SEED: the statements are not yours to turn. If you find one false, say at which input.
  Laid BY PROGRAM, IN A SANDBOX (cutbox-rows.mjs): the forced cells as the released guide's own fill.sh prints them over the translation 73e3b6c6e26e05e2… (all of the seat's roots in one cut). By AI agents, Wed Nov 11 2026. No macro, syntax, notation, axiom, sorry.
-/
import Derived.Test.YtecdmbcdkfjgfaaChecked
import GoSem.Claim
import GoSem.ClaimJoined
import GoSem.ClaimMapViews
import Derived.JoinedTies
import Derived.KernelRfl
namespace Go.Proofs.Ytecdmbcdkfjgfaa
/- THE CELL 'sum', in the pinned program and in every row, IS THE sha256 OF THE DUMP (.gsa) THAT YtecdmbcdkfjgfaaProg.lean LOADS. Nothing in Lean hashes anything: it is a label: what it is worth is what the hold of that sum in a sandbox is worth. -/
noncomputable def Try.pinned : Pinned := { name := "ytecdmbcdkfjgfaa", sum := "73e3b6c6e26e05e27518e7896e6c1e0167fb1b89a1cb17c55797170d9eb361da", checked := Try.checked }
namespace Rows
def none {H : Type} : Left H := { results := [], args := [] }

/-- 'haulagelaw15.LedgerHears': WHATEVER THE INPUT: true; the input reads as it did. -/
def ledgerHearsSpec : ChangeSpec := { name := "ledgerHears", fn := fun _ => fun
  | [d] => { results := [.lit (.bool true)], args := [d] }
  | _ => none }
def ledgerHearsRow : OpenClaim := { program := "ytecdmbcdkfjgfaa", sum := "73e3b6c6e26e05e27518e7896e6c1e0167fb1b89a1cb17c55797170d9eb361da", func := "haulage/haulagelaw15.LedgerHears", spec := "ledgerHears", apart := false }
def LedgerHearsSaid : Prop := ledgerHearsRow.holds Try.pinned (OpenSpec.ofChange ledgerHearsSpec)

/-- ITS FALSE NEIGHBOUR: 'it returns false'. Refute it at one input. -/
def ledgerHearsWrong : ChangeSpec := { name := "ledgerHears", fn := fun _ => fun
  | [d] => { results := [.lit (.bool false)], args := [d] }
  | _ => none }
def LedgerHearsWrongFalsely : Prop := ledgerHearsRow.holds Try.pinned (OpenSpec.ofChange ledgerHearsWrong)

/-- 'haulagelaw15.LedgerSteps': WHATEVER THE INPUT: true; the input reads as it did. -/
def ledgerStepsSpec : ChangeSpec := { name := "ledgerSteps", fn := fun _ => fun
  | [d] => { results := [.lit (.bool true)], args := [d] }
  | _ => none }
def ledgerStepsRow : OpenClaim := { program := "ytecdmbcdkfjgfaa", sum := "73e3b6c6e26e05e27518e7896e6c1e0167fb1b89a1cb17c55797170d9eb361da", func := "haulage/haulagelaw15.LedgerSteps", spec := "ledgerSteps", apart := false }
def LedgerStepsSaid : Prop := ledgerStepsRow.holds Try.pinned (OpenSpec.ofChange ledgerStepsSpec)

/-- ITS FALSE NEIGHBOUR: 'it returns false'. Refute it at one input. -/
def ledgerStepsWrong : ChangeSpec := { name := "ledgerSteps", fn := fun _ => fun
  | [d] => { results := [.lit (.bool false)], args := [d] }
  | _ => none }
def LedgerStepsWrongFalsely : Prop := ledgerStepsRow.holds Try.pinned (OpenSpec.ofChange ledgerStepsWrong)

/-- 'haulagelaw15.LedgerRows': WHATEVER THE INPUT: true; the input reads as it did. -/
def ledgerRowsSpec : ChangeSpec := { name := "ledgerRows", fn := fun _ => fun
  | [d] => { results := [.lit (.bool true)], args := [d] }
  | _ => none }
def ledgerRowsRow : OpenClaim := { program := "ytecdmbcdkfjgfaa", sum := "73e3b6c6e26e05e27518e7896e6c1e0167fb1b89a1cb17c55797170d9eb361da", func := "haulage/haulagelaw15.LedgerRows", spec := "ledgerRows", apart := false }
def LedgerRowsSaid : Prop := ledgerRowsRow.holds Try.pinned (OpenSpec.ofChange ledgerRowsSpec)

/-- ITS FALSE NEIGHBOUR: 'it returns false'. Refute it at one input. -/
def ledgerRowsWrong : ChangeSpec := { name := "ledgerRows", fn := fun _ => fun
  | [d] => { results := [.lit (.bool false)], args := [d] }
  | _ => none }
def LedgerRowsWrongFalsely : Prop := ledgerRowsRow.holds Try.pinned (OpenSpec.ofChange ledgerRowsWrong)

/-- 'haulagelaw15.LedgerRises': WHATEVER THE INPUT: true; the input reads as it did. -/
def ledgerRisesSpec : ChangeSpec := { name := "ledgerRises", fn := fun _ => fun
  | [d] => { results := [.lit (.bool true)], args := [d] }
  | _ => none }
def ledgerRisesRow : OpenClaim := { program := "ytecdmbcdkfjgfaa", sum := "73e3b6c6e26e05e27518e7896e6c1e0167fb1b89a1cb17c55797170d9eb361da", func := "haulage/haulagelaw15.LedgerRises", spec := "ledgerRises", apart := false }
def LedgerRisesSaid : Prop := ledgerRisesRow.holds Try.pinned (OpenSpec.ofChange ledgerRisesSpec)

/-- ITS FALSE NEIGHBOUR: 'it returns false'. Refute it at one input. -/
def ledgerRisesWrong : ChangeSpec := { name := "ledgerRises", fn := fun _ => fun
  | [d] => { results := [.lit (.bool false)], args := [d] }
  | _ => none }
def LedgerRisesWrongFalsely : Prop := ledgerRisesRow.holds Try.pinned (OpenSpec.ofChange ledgerRisesWrong)

/-- 'haulagelaw15.LedgerHands': WHATEVER THE INPUT: true; the input reads as it did. -/
def ledgerHandsSpec : ChangeSpec := { name := "ledgerHands", fn := fun _ => fun
  | [d1, d2, d3] => { results := [.lit (.bool true)], args := [d1, d2, d3] }
  | _ => none }
def ledgerHandsRow : OpenClaim := { program := "ytecdmbcdkfjgfaa", sum := "73e3b6c6e26e05e27518e7896e6c1e0167fb1b89a1cb17c55797170d9eb361da", func := "haulage/haulagelaw15.LedgerHands", spec := "ledgerHands", apart := false }
def LedgerHandsSaid : Prop := ledgerHandsRow.holds Try.pinned (OpenSpec.ofChange ledgerHandsSpec)

/-- ITS FALSE NEIGHBOUR: 'it returns false'. Refute it at one input. -/
def ledgerHandsWrong : ChangeSpec := { name := "ledgerHands", fn := fun _ => fun
  | [d1, d2, d3] => { results := [.lit (.bool false)], args := [d1, d2, d3] }
  | _ => none }
def LedgerHandsWrongFalsely : Prop := ledgerHandsRow.holds Try.pinned (OpenSpec.ofChange ledgerHandsWrong)

/-- 'haulagelaw15.LedgerOne': WHATEVER THE INPUT: true; the input reads as it did. -/
def ledgerOneSpec : ChangeSpec := { name := "ledgerOne", fn := fun _ => fun
  | [d1, d2, d3] => { results := [.lit (.bool true)], args := [d1, d2, d3] }
  | _ => none }
def ledgerOneRow : OpenClaim := { program := "ytecdmbcdkfjgfaa", sum := "73e3b6c6e26e05e27518e7896e6c1e0167fb1b89a1cb17c55797170d9eb361da", func := "haulage/haulagelaw15.LedgerOne", spec := "ledgerOne", apart := false }
def LedgerOneSaid : Prop := ledgerOneRow.holds Try.pinned (OpenSpec.ofChange ledgerOneSpec)

/-- ITS FALSE NEIGHBOUR: 'it returns false'. Refute it at one input. -/
def ledgerOneWrong : ChangeSpec := { name := "ledgerOne", fn := fun _ => fun
  | [d1, d2, d3] => { results := [.lit (.bool false)], args := [d1, d2, d3] }
  | _ => none }
def LedgerOneWrongFalsely : Prop := ledgerOneRow.holds Try.pinned (OpenSpec.ofChange ledgerOneWrong)

/-- 'haulagelaw15.LedgerEnds': WHATEVER THE INPUT: true; the input reads as it did. -/
def ledgerEndsSpec : ChangeSpec := { name := "ledgerEnds", fn := fun _ => fun
  | [d1, d2, d3] => { results := [.lit (.bool true)], args := [d1, d2, d3] }
  | _ => none }
def ledgerEndsRow : OpenClaim := { program := "ytecdmbcdkfjgfaa", sum := "73e3b6c6e26e05e27518e7896e6c1e0167fb1b89a1cb17c55797170d9eb361da", func := "haulage/haulagelaw15.LedgerEnds", spec := "ledgerEnds", apart := false }
def LedgerEndsSaid : Prop := ledgerEndsRow.holds Try.pinned (OpenSpec.ofChange ledgerEndsSpec)

/-- ITS FALSE NEIGHBOUR: 'it returns false'. Refute it at one input. -/
def ledgerEndsWrong : ChangeSpec := { name := "ledgerEnds", fn := fun _ => fun
  | [d1, d2, d3] => { results := [.lit (.bool false)], args := [d1, d2, d3] }
  | _ => none }
def LedgerEndsWrongFalsely : Prop := ledgerEndsRow.holds Try.pinned (OpenSpec.ofChange ledgerEndsWrong)

/- THE SECOND FORM. 'bulk': how many values and letters a reading holds, each counted each time it is reached (what is shared counts as often as it is met; a slice's spare places count too). A statement '..UptoSaid' is the law's where the arguments, and the package variables that the reading takes, are together of bulk at most 1048576: NARROWER than '..Said'. Prove '..Said' where nothing that the law and all that it calls make is longer than what came in: it says more and counts as full. Else prove '..UptoSaid'. A law counts once. -/
mutual
def uptoBulk {H : Type} : DataW H → Nat
  | .lit (.string bytes) => bytes.length + 1
  | .lit _ => 1
  | .nil => 1
  | .ptr d => uptoBulk d + 1
  | .slice elems spare => uptoBulkAll elems + uptoBulkAll spare + 1
  | .agg parts => uptoBulkAll parts + 1
  | .iface _ d => uptoBulk d + 1
  | .map entries => uptoBulkEntries entries + 1
  | .held _ => 1
def uptoBulkAll {H : Type} : List (DataW H) → Nat
  | [] => 0
  | d :: r => uptoBulk d + uptoBulkAll r
def uptoBulkEntries {H : Type} : List (Lit × DataW H) → Nat
  | [] => 0
  | x :: r => uptoBulkEntry x + uptoBulkEntries r
def uptoBulkEntry {H : Type} : Lit × DataW H → Nat
  | (.string bytes, d) => bytes.length + uptoBulk d + 1
  | (_, d) => uptoBulk d + 1
 end
def uptoSmall : (H : Type) → List (DataW H) → Bool := fun _ ds => decide (uptoBulkAll ds ≤ 1048576)
def OpenSpec.upto (s : _root_.Go.ChangeSpec) : _root_.Go.OpenSpec := { _root_.Go.OpenSpec.ofChange s with cond := some uptoSmall }

/-- 'haulagelaw15.LedgerHears', WHERE WHAT IT READS IS OF BULK AT MOST 1048576: true; the input reads as it did. -/
def ledgerHearsUptoRow : OpenClaim := { program := "ytecdmbcdkfjgfaa", sum := "73e3b6c6e26e05e27518e7896e6c1e0167fb1b89a1cb17c55797170d9eb361da", func := "haulage/haulagelaw15.LedgerHears", spec := "ledgerHears", apart := false, narrowed := true }
def LedgerHearsUptoSaid : Prop := ledgerHearsUptoRow.holds Try.pinned (OpenSpec.upto ledgerHearsSpec)

/-- 'haulagelaw15.LedgerSteps', WHERE WHAT IT READS IS OF BULK AT MOST 1048576: true; the input reads as it did. -/
def ledgerStepsUptoRow : OpenClaim := { program := "ytecdmbcdkfjgfaa", sum := "73e3b6c6e26e05e27518e7896e6c1e0167fb1b89a1cb17c55797170d9eb361da", func := "haulage/haulagelaw15.LedgerSteps", spec := "ledgerSteps", apart := false, narrowed := true }
def LedgerStepsUptoSaid : Prop := ledgerStepsUptoRow.holds Try.pinned (OpenSpec.upto ledgerStepsSpec)

/-- 'haulagelaw15.LedgerRows', WHERE WHAT IT READS IS OF BULK AT MOST 1048576: true; the input reads as it did. -/
def ledgerRowsUptoRow : OpenClaim := { program := "ytecdmbcdkfjgfaa", sum := "73e3b6c6e26e05e27518e7896e6c1e0167fb1b89a1cb17c55797170d9eb361da", func := "haulage/haulagelaw15.LedgerRows", spec := "ledgerRows", apart := false, narrowed := true }
def LedgerRowsUptoSaid : Prop := ledgerRowsUptoRow.holds Try.pinned (OpenSpec.upto ledgerRowsSpec)

/-- 'haulagelaw15.LedgerRises', WHERE WHAT IT READS IS OF BULK AT MOST 1048576: true; the input reads as it did. -/
def ledgerRisesUptoRow : OpenClaim := { program := "ytecdmbcdkfjgfaa", sum := "73e3b6c6e26e05e27518e7896e6c1e0167fb1b89a1cb17c55797170d9eb361da", func := "haulage/haulagelaw15.LedgerRises", spec := "ledgerRises", apart := false, narrowed := true }
def LedgerRisesUptoSaid : Prop := ledgerRisesUptoRow.holds Try.pinned (OpenSpec.upto ledgerRisesSpec)

/-- 'haulagelaw15.LedgerHands', WHERE WHAT IT READS IS OF BULK AT MOST 1048576: true; the input reads as it did. -/
def ledgerHandsUptoRow : OpenClaim := { program := "ytecdmbcdkfjgfaa", sum := "73e3b6c6e26e05e27518e7896e6c1e0167fb1b89a1cb17c55797170d9eb361da", func := "haulage/haulagelaw15.LedgerHands", spec := "ledgerHands", apart := false, narrowed := true }
def LedgerHandsUptoSaid : Prop := ledgerHandsUptoRow.holds Try.pinned (OpenSpec.upto ledgerHandsSpec)

/-- 'haulagelaw15.LedgerOne', WHERE WHAT IT READS IS OF BULK AT MOST 1048576: true; the input reads as it did. -/
def ledgerOneUptoRow : OpenClaim := { program := "ytecdmbcdkfjgfaa", sum := "73e3b6c6e26e05e27518e7896e6c1e0167fb1b89a1cb17c55797170d9eb361da", func := "haulage/haulagelaw15.LedgerOne", spec := "ledgerOne", apart := false, narrowed := true }
def LedgerOneUptoSaid : Prop := ledgerOneUptoRow.holds Try.pinned (OpenSpec.upto ledgerOneSpec)

/-- 'haulagelaw15.LedgerEnds', WHERE WHAT IT READS IS OF BULK AT MOST 1048576: true; the input reads as it did. -/
def ledgerEndsUptoRow : OpenClaim := { program := "ytecdmbcdkfjgfaa", sum := "73e3b6c6e26e05e27518e7896e6c1e0167fb1b89a1cb17c55797170d9eb361da", func := "haulage/haulagelaw15.LedgerEnds", spec := "ledgerEnds", apart := false, narrowed := true }
def LedgerEndsUptoSaid : Prop := ledgerEndsUptoRow.holds Try.pinned (OpenSpec.upto ledgerEndsSpec)

end Rows
end Go.Proofs.Ytecdmbcdkfjgfaa
