/-
  No cell of these rows narrows 'for every input' (looked for: loops, veiled, ifaces, maps, wideKeys, modest, calm, conditions, laid).
  DERIVED. THE GIVEN ROWS OF THIS SEAT. 8 by the template 'for every input the law returns true; each argument reads behind the call as it read before'; 0 by the template 'total and deterministic' (their statements: YtjmmdpnphafdfaaTotals.lean).
  GIVEN WITH THE SEED: the statements are not yours to turn. If you find one false, say at which input.
  Laid BY PROGRAM, IN A SANDBOX (cutbox-rows.mjs): the forced cells as the released guide's own fill.sh prints them over the translation e56fc9e654f4938c… (all of the seat's roots in one cut). By AI agents, Wed Nov 11 2026. No macro, syntax, notation, axiom, sorry.
-/
import Derived.Test.YtjmmdpnphafdfaaChecked
import GoSem.Claim
import GoSem.ClaimJoined
import GoSem.ClaimMapViews
import Derived.JoinedTies
import Derived.KernelRfl
namespace Go.Proofs.Ytjmmdpnphafdfaa
/- THE CELL 'sum', in the pinned program and in every row, IS THE sha256 OF THE DUMP (.gsa) THAT YtjmmdpnphafdfaaProg.lean LOADS. Nothing in Lean hashes anything: it is a label: what it is worth is what the hold of that sum in a sandbox is worth. -/
noncomputable def Try.pinned : Pinned := { name := "ytjmmdpnphafdfaa", sum := "e56fc9e654f4938c1fb4ef4e4f64d0356d655aab201b9c2e90d93aa67e8782ba", checked := Try.checked }
namespace Rows
def none {H : Type} : Left H := { results := [], args := [] }

/-- 'haulagelaw16.RecordDecodes': WHATEVER THE INPUT: true; the input reads as it did. -/
def recordDecodesSpec : ChangeSpec := { name := "recordDecodes", fn := fun _ => fun
  | [d] => { results := [.lit (.bool true)], args := [d] }
  | _ => none }
def recordDecodesRow : OpenClaim := { program := "ytjmmdpnphafdfaa", sum := "e56fc9e654f4938c1fb4ef4e4f64d0356d655aab201b9c2e90d93aa67e8782ba", func := "haulage/haulagelaw16.RecordDecodes", spec := "recordDecodes", unfollowed := true, recurses := true, apart := false }
def RecordDecodesSaid : Prop := recordDecodesRow.holds Try.pinned (OpenSpec.ofChange recordDecodesSpec)

/-- ITS FALSE NEIGHBOUR: 'it returns false'. Refute it at one input. -/
def recordDecodesWrong : ChangeSpec := { name := "recordDecodes", fn := fun _ => fun
  | [d] => { results := [.lit (.bool false)], args := [d] }
  | _ => none }
def RecordDecodesWrongFalsely : Prop := recordDecodesRow.holds Try.pinned (OpenSpec.ofChange recordDecodesWrong)

/-- 'haulagelaw16.RecordEncodes': WHATEVER THE INPUT: true; the input reads as it did. -/
def recordEncodesSpec : ChangeSpec := { name := "recordEncodes", fn := fun _ => fun
  | [d] => { results := [.lit (.bool true)], args := [d] }
  | _ => none }
def recordEncodesRow : OpenClaim := { program := "ytjmmdpnphafdfaa", sum := "e56fc9e654f4938c1fb4ef4e4f64d0356d655aab201b9c2e90d93aa67e8782ba", func := "haulage/haulagelaw16.RecordEncodes", spec := "recordEncodes", unfollowed := true, recurses := true, apart := false }
def RecordEncodesSaid : Prop := recordEncodesRow.holds Try.pinned (OpenSpec.ofChange recordEncodesSpec)

/-- ITS FALSE NEIGHBOUR: 'it returns false'. Refute it at one input. -/
def recordEncodesWrong : ChangeSpec := { name := "recordEncodes", fn := fun _ => fun
  | [d] => { results := [.lit (.bool false)], args := [d] }
  | _ => none }
def RecordEncodesWrongFalsely : Prop := recordEncodesRow.holds Try.pinned (OpenSpec.ofChange recordEncodesWrong)

/-- 'haulagelaw16.RecordForm': WHATEVER THE INPUT: true; the input reads as it did. -/
def recordFormSpec : ChangeSpec := { name := "recordForm", fn := fun _ => fun
  | [d] => { results := [.lit (.bool true)], args := [d] }
  | _ => none }
def recordFormRow : OpenClaim := { program := "ytjmmdpnphafdfaa", sum := "e56fc9e654f4938c1fb4ef4e4f64d0356d655aab201b9c2e90d93aa67e8782ba", func := "haulage/haulagelaw16.RecordForm", spec := "recordForm", unfollowed := true, recurses := true, apart := false }
def RecordFormSaid : Prop := recordFormRow.holds Try.pinned (OpenSpec.ofChange recordFormSpec)

/-- ITS FALSE NEIGHBOUR: 'it returns false'. Refute it at one input. -/
def recordFormWrong : ChangeSpec := { name := "recordForm", fn := fun _ => fun
  | [d] => { results := [.lit (.bool false)], args := [d] }
  | _ => none }
def RecordFormWrongFalsely : Prop := recordFormRow.holds Try.pinned (OpenSpec.ofChange recordFormWrong)

/-- 'haulagelaw16.RecordRow': WHATEVER THE INPUT: true; the input reads as it did. -/
def recordRowSpec : ChangeSpec := { name := "recordRow", fn := fun _ => fun
  | [d] => { results := [.lit (.bool true)], args := [d] }
  | _ => none }
def recordRowRow : OpenClaim := { program := "ytjmmdpnphafdfaa", sum := "e56fc9e654f4938c1fb4ef4e4f64d0356d655aab201b9c2e90d93aa67e8782ba", func := "haulage/haulagelaw16.RecordRow", spec := "recordRow", unfollowed := true, recurses := true, apart := false }
def RecordRowSaid : Prop := recordRowRow.holds Try.pinned (OpenSpec.ofChange recordRowSpec)

/-- ITS FALSE NEIGHBOUR: 'it returns false'. Refute it at one input. -/
def recordRowWrong : ChangeSpec := { name := "recordRow", fn := fun _ => fun
  | [d] => { results := [.lit (.bool false)], args := [d] }
  | _ => none }
def RecordRowWrongFalsely : Prop := recordRowRow.holds Try.pinned (OpenSpec.ofChange recordRowWrong)

/-- 'haulagelaw16.RecordUnused': WHATEVER THE INPUT: true; the input reads as it did. -/
def recordUnusedSpec : ChangeSpec := { name := "recordUnused", fn := fun _ => fun
  | [d1, d2] => { results := [.lit (.bool true)], args := [d1, d2] }
  | _ => none }
def recordUnusedRow : OpenClaim := { program := "ytjmmdpnphafdfaa", sum := "e56fc9e654f4938c1fb4ef4e4f64d0356d655aab201b9c2e90d93aa67e8782ba", func := "haulage/haulagelaw16.RecordUnused", spec := "recordUnused", unfollowed := true, recurses := true, apart := false }
def RecordUnusedSaid : Prop := recordUnusedRow.holds Try.pinned (OpenSpec.ofChange recordUnusedSpec)

/-- ITS FALSE NEIGHBOUR: 'it returns false'. Refute it at one input. -/
def recordUnusedWrong : ChangeSpec := { name := "recordUnused", fn := fun _ => fun
  | [d1, d2] => { results := [.lit (.bool false)], args := [d1, d2] }
  | _ => none }
def RecordUnusedWrongFalsely : Prop := recordUnusedRow.holds Try.pinned (OpenSpec.ofChange recordUnusedWrong)

/-- 'haulagelaw16.RecordBack': WHATEVER THE INPUT: true; the input reads as it did. -/
def recordBackSpec : ChangeSpec := { name := "recordBack", fn := fun _ => fun
  | [d1, d2] => { results := [.lit (.bool true)], args := [d1, d2] }
  | _ => none }
def recordBackRow : OpenClaim := { program := "ytjmmdpnphafdfaa", sum := "e56fc9e654f4938c1fb4ef4e4f64d0356d655aab201b9c2e90d93aa67e8782ba", func := "haulage/haulagelaw16.RecordBack", spec := "recordBack", unfollowed := true, recurses := true, apart := false }
def RecordBackSaid : Prop := recordBackRow.holds Try.pinned (OpenSpec.ofChange recordBackSpec)

/-- ITS FALSE NEIGHBOUR: 'it returns false'. Refute it at one input. -/
def recordBackWrong : ChangeSpec := { name := "recordBack", fn := fun _ => fun
  | [d1, d2] => { results := [.lit (.bool false)], args := [d1, d2] }
  | _ => none }
def RecordBackWrongFalsely : Prop := recordBackRow.holds Try.pinned (OpenSpec.ofChange recordBackWrong)

/-- 'haulagelaw16.RecordLong': WHATEVER THE INPUT: true; the input reads as it did. -/
def recordLongSpec : ChangeSpec := { name := "recordLong", fn := fun _ => fun
  | [d] => { results := [.lit (.bool true)], args := [d] }
  | _ => none }
def recordLongRow : OpenClaim := { program := "ytjmmdpnphafdfaa", sum := "e56fc9e654f4938c1fb4ef4e4f64d0356d655aab201b9c2e90d93aa67e8782ba", func := "haulage/haulagelaw16.RecordLong", spec := "recordLong", unfollowed := true, recurses := true, apart := false }
def RecordLongSaid : Prop := recordLongRow.holds Try.pinned (OpenSpec.ofChange recordLongSpec)

/-- ITS FALSE NEIGHBOUR: 'it returns false'. Refute it at one input. -/
def recordLongWrong : ChangeSpec := { name := "recordLong", fn := fun _ => fun
  | [d] => { results := [.lit (.bool false)], args := [d] }
  | _ => none }
def RecordLongWrongFalsely : Prop := recordLongRow.holds Try.pinned (OpenSpec.ofChange recordLongWrong)

/-- 'haulagelaw16.RecordOwn': WHATEVER THE INPUT: true; the input reads as it did. -/
def recordOwnSpec : ChangeSpec := { name := "recordOwn", fn := fun _ => fun
  | [d1, d2] => { results := [.lit (.bool true)], args := [d1, d2] }
  | _ => none }
def recordOwnRow : OpenClaim := { program := "ytjmmdpnphafdfaa", sum := "e56fc9e654f4938c1fb4ef4e4f64d0356d655aab201b9c2e90d93aa67e8782ba", func := "haulage/haulagelaw16.RecordOwn", spec := "recordOwn", unfollowed := true, recurses := true, apart := false }
def RecordOwnSaid : Prop := recordOwnRow.holds Try.pinned (OpenSpec.ofChange recordOwnSpec)

/-- ITS FALSE NEIGHBOUR: 'it returns false'. Refute it at one input. -/
def recordOwnWrong : ChangeSpec := { name := "recordOwn", fn := fun _ => fun
  | [d1, d2] => { results := [.lit (.bool false)], args := [d1, d2] }
  | _ => none }
def RecordOwnWrongFalsely : Prop := recordOwnRow.holds Try.pinned (OpenSpec.ofChange recordOwnWrong)

/- THE SECOND FORM. 'bulk': how many values and letters a reading holds, each counted each time it is reached (what is shared counts as often as it is met; a slice's spare places count too). A statement '..UptoSaid' is the law's where the arguments, and the package variables that the reading takes, are together of bulk at most 1048576: NARROWER than '..Said'. Prove '..Said' where nothing that the law and all that it calls make is longer than what came in: it says more and counts as full. Else prove '..UptoSaid'. A law counts once. -/
mutual
def uptoBulk {H : Type} : DataW H → Nat
  | .lit (.string bytes) => bytes.length + 1
  | .lit _ => 1
  | .nil => 1
  | .ptr d => uptoBulk d + 1
  | .slice elems spare => uptoBulkAll elems + uptoBulkAll spare + 1
  | .agg parts => uptoBulkAll parts + 1
  | .iface _ d => uptoBulk d + 1
  | .map entries => uptoBulkEntries entries + 1
  | .held _ => 1
def uptoBulkAll {H : Type} : List (DataW H) → Nat
  | [] => 0
  | d :: r => uptoBulk d + uptoBulkAll r
def uptoBulkEntries {H : Type} : List (Lit × DataW H) → Nat
  | [] => 0
  | x :: r => uptoBulkEntry x + uptoBulkEntries r
def uptoBulkEntry {H : Type} : Lit × DataW H → Nat
  | (.string bytes, d) => bytes.length + uptoBulk d + 1
  | (_, d) => uptoBulk d + 1
 end
def uptoSmall : (H : Type) → List (DataW H) → Bool := fun _ ds => decide (uptoBulkAll ds ≤ 1048576)
def OpenSpec.upto (s : _root_.Go.ChangeSpec) : _root_.Go.OpenSpec := { _root_.Go.OpenSpec.ofChange s with cond := some uptoSmall }

/-- 'haulagelaw16.RecordDecodes', WHERE WHAT IT READS IS OF BULK AT MOST 1048576: true; the input reads as it did. -/
def recordDecodesUptoRow : OpenClaim := { program := "ytjmmdpnphafdfaa", sum := "e56fc9e654f4938c1fb4ef4e4f64d0356d655aab201b9c2e90d93aa67e8782ba", func := "haulage/haulagelaw16.RecordDecodes", spec := "recordDecodes", unfollowed := true, recurses := true, apart := false, narrowed := true }
def RecordDecodesUptoSaid : Prop := recordDecodesUptoRow.holds Try.pinned (OpenSpec.upto recordDecodesSpec)

/-- 'haulagelaw16.RecordEncodes', WHERE WHAT IT READS IS OF BULK AT MOST 1048576: true; the input reads as it did. -/
def recordEncodesUptoRow : OpenClaim := { program := "ytjmmdpnphafdfaa", sum := "e56fc9e654f4938c1fb4ef4e4f64d0356d655aab201b9c2e90d93aa67e8782ba", func := "haulage/haulagelaw16.RecordEncodes", spec := "recordEncodes", unfollowed := true, recurses := true, apart := false, narrowed := true }
def RecordEncodesUptoSaid : Prop := recordEncodesUptoRow.holds Try.pinned (OpenSpec.upto recordEncodesSpec)

/-- 'haulagelaw16.RecordForm', WHERE WHAT IT READS IS OF BULK AT MOST 1048576: true; the input reads as it did. -/
def recordFormUptoRow : OpenClaim := { program := "ytjmmdpnphafdfaa", sum := "e56fc9e654f4938c1fb4ef4e4f64d0356d655aab201b9c2e90d93aa67e8782ba", func := "haulage/haulagelaw16.RecordForm", spec := "recordForm", unfollowed := true, recurses := true, apart := false, narrowed := true }
def RecordFormUptoSaid : Prop := recordFormUptoRow.holds Try.pinned (OpenSpec.upto recordFormSpec)

/-- 'haulagelaw16.RecordRow', WHERE WHAT IT READS IS OF BULK AT MOST 1048576: true; the input reads as it did. -/
def recordRowUptoRow : OpenClaim := { program := "ytjmmdpnphafdfaa", sum := "e56fc9e654f4938c1fb4ef4e4f64d0356d655aab201b9c2e90d93aa67e8782ba", func := "haulage/haulagelaw16.RecordRow", spec := "recordRow", unfollowed := true, recurses := true, apart := false, narrowed := true }
def RecordRowUptoSaid : Prop := recordRowUptoRow.holds Try.pinned (OpenSpec.upto recordRowSpec)

/-- 'haulagelaw16.RecordUnused', WHERE WHAT IT READS IS OF BULK AT MOST 1048576: true; the input reads as it did. -/
def recordUnusedUptoRow : OpenClaim := { program := "ytjmmdpnphafdfaa", sum := "e56fc9e654f4938c1fb4ef4e4f64d0356d655aab201b9c2e90d93aa67e8782ba", func := "haulage/haulagelaw16.RecordUnused", spec := "recordUnused", unfollowed := true, recurses := true, apart := false, narrowed := true }
def RecordUnusedUptoSaid : Prop := recordUnusedUptoRow.holds Try.pinned (OpenSpec.upto recordUnusedSpec)

/-- 'haulagelaw16.RecordBack', WHERE WHAT IT READS IS OF BULK AT MOST 1048576: true; the input reads as it did. -/
def recordBackUptoRow : OpenClaim := { program := "ytjmmdpnphafdfaa", sum := "e56fc9e654f4938c1fb4ef4e4f64d0356d655aab201b9c2e90d93aa67e8782ba", func := "haulage/haulagelaw16.RecordBack", spec := "recordBack", unfollowed := true, recurses := true, apart := false, narrowed := true }
def RecordBackUptoSaid : Prop := recordBackUptoRow.holds Try.pinned (OpenSpec.upto recordBackSpec)

/-- 'haulagelaw16.RecordLong', WHERE WHAT IT READS IS OF BULK AT MOST 1048576: true; the input reads as it did. -/
def recordLongUptoRow : OpenClaim := { program := "ytjmmdpnphafdfaa", sum := "e56fc9e654f4938c1fb4ef4e4f64d0356d655aab201b9c2e90d93aa67e8782ba", func := "haulage/haulagelaw16.RecordLong", spec := "recordLong", unfollowed := true, recurses := true, apart := false, narrowed := true }
def RecordLongUptoSaid : Prop := recordLongUptoRow.holds Try.pinned (OpenSpec.upto recordLongSpec)

/-- 'haulagelaw16.RecordOwn', WHERE WHAT IT READS IS OF BULK AT MOST 1048576: true; the input reads as it did. -/
def recordOwnUptoRow : OpenClaim := { program := "ytjmmdpnphafdfaa", sum := "e56fc9e654f4938c1fb4ef4e4f64d0356d655aab201b9c2e90d93aa67e8782ba", func := "haulage/haulagelaw16.RecordOwn", spec := "recordOwn", unfollowed := true, recurses := true, apart := false, narrowed := true }
def RecordOwnUptoSaid : Prop := recordOwnUptoRow.holds Try.pinned (OpenSpec.upto recordOwnSpec)

end Rows
end Go.Proofs.Ytjmmdpnphafdfaa
