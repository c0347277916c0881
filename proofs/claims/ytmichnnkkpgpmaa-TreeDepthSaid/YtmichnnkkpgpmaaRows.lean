/-
  No cell of these rows narrows 'for every input' (looked for: loops, veiled, ifaces, maps, wideKeys, modest, calm, conditions, laid).
  DERIVED. THE GIVEN ROWS OF THIS SEAT. 8 by the template 'for every input the law returns true; each argument reads behind the call as it read before'; 0 by the template 'total and deterministic' (their statements: YtmichnnkkpgpmaaTotals.lean).
  GIVEN WITH THE SEED: the statements are not yours to turn. If you find one false, say at which input.
  Laid BY PROGRAM, IN A SANDBOX (cutbox-rows.mjs): the forced cells as the released guide's own fill.sh prints them over the translation 9ea8965318398e87… (all of the seat's roots in one cut). By AI agents, Wed Nov 11 2026. No macro, syntax, notation, axiom, sorry.
-/
import Derived.Test.YtmichnnkkpgpmaaChecked
import GoSem.Claim
import GoSem.ClaimJoined
import GoSem.ClaimMapViews
import Derived.JoinedTies
import Derived.KernelRfl
namespace Go.Proofs.Ytmichnnkkpgpmaa
/- THE CELL 'sum', in the pinned program and in every row, IS THE sha256 OF THE DUMP (.gsa) THAT YtmichnnkkpgpmaaProg.lean LOADS. Nothing in Lean hashes anything: it is a label: what it is worth is what the hold of that sum in a sandbox is worth. -/
noncomputable def Try.pinned : Pinned := { name := "ytmichnnkkpgpmaa", sum := "9ea8965318398e87dfa20ef475c1468b9f2683948eb3f048cf309430afe41958", checked := Try.checked }
namespace Rows
def none {H : Type} : Left H := { results := [], args := [] }

/-- 'haulagelaw05.TreeLists': WHATEVER THE INPUT: true; the input reads as it did. -/
def treeListsSpec : ChangeSpec := { name := "treeLists", fn := fun _ => fun
  | [d1, d2, d3, d4] => { results := [.lit (.bool true)], args := [d1, d2, d3, d4] }
  | _ => none }
def treeListsRow : OpenClaim := { program := "ytmichnnkkpgpmaa", sum := "9ea8965318398e87dfa20ef475c1468b9f2683948eb3f048cf309430afe41958", func := "haulage/haulagelaw05.TreeLists", spec := "treeLists", recurses := true, apart := false }
def TreeListsSaid : Prop := treeListsRow.holds Try.pinned (OpenSpec.ofChange treeListsSpec)

/-- ITS FALSE NEIGHBOUR: 'it returns false'. Refute it at one input. -/
def treeListsWrong : ChangeSpec := { name := "treeLists", fn := fun _ => fun
  | [d1, d2, d3, d4] => { results := [.lit (.bool false)], args := [d1, d2, d3, d4] }
  | _ => none }
def TreeListsWrongFalsely : Prop := treeListsRow.holds Try.pinned (OpenSpec.ofChange treeListsWrong)

/-- 'haulagelaw05.TreePlaces': WHATEVER THE INPUT: true; the input reads as it did. -/
def treePlacesSpec : ChangeSpec := { name := "treePlaces", fn := fun _ => fun
  | [d1, d2] => { results := [.lit (.bool true)], args := [d1, d2] }
  | _ => none }
def treePlacesRow : OpenClaim := { program := "ytmichnnkkpgpmaa", sum := "9ea8965318398e87dfa20ef475c1468b9f2683948eb3f048cf309430afe41958", func := "haulage/haulagelaw05.TreePlaces", spec := "treePlaces", unfollowed := true, recurses := true, apart := false }
def TreePlacesSaid : Prop := treePlacesRow.holds Try.pinned (OpenSpec.ofChange treePlacesSpec)

/-- ITS FALSE NEIGHBOUR: 'it returns false'. Refute it at one input. -/
def treePlacesWrong : ChangeSpec := { name := "treePlaces", fn := fun _ => fun
  | [d1, d2] => { results := [.lit (.bool false)], args := [d1, d2] }
  | _ => none }
def TreePlacesWrongFalsely : Prop := treePlacesRow.holds Try.pinned (OpenSpec.ofChange treePlacesWrong)

/-- 'haulagelaw05.TreeDepth': WHATEVER THE INPUT: true; the input reads as it did. -/
def treeDepthSpec : ChangeSpec := { name := "treeDepth", fn := fun _ => fun
  | [d1, d2, d3, d4] => { results := [.lit (.bool true)], args := [d1, d2, d3, d4] }
  | _ => none }
def treeDepthRow : OpenClaim := { program := "ytmichnnkkpgpmaa", sum := "9ea8965318398e87dfa20ef475c1468b9f2683948eb3f048cf309430afe41958", func := "haulage/haulagelaw05.TreeDepth", spec := "treeDepth", unfollowed := true, recurses := true, apart := false }
def TreeDepthSaid : Prop := treeDepthRow.holds Try.pinned (OpenSpec.ofChange treeDepthSpec)

/-- ITS FALSE NEIGHBOUR: 'it returns false'. Refute it at one input. -/
def treeDepthWrong : ChangeSpec := { name := "treeDepth", fn := fun _ => fun
  | [d1, d2, d3, d4] => { results := [.lit (.bool false)], args := [d1, d2, d3, d4] }
  | _ => none }
def TreeDepthWrongFalsely : Prop := treeDepthRow.holds Try.pinned (OpenSpec.ofChange treeDepthWrong)

/-- 'haulagelaw05.TreeStays': WHATEVER THE INPUT: true; the input reads as it did. -/
def treeStaysSpec : ChangeSpec := { name := "treeStays", fn := fun _ => fun
  | [d1, d2, d3, d4] => { results := [.lit (.bool true)], args := [d1, d2, d3, d4] }
  | _ => none }
def treeStaysRow : OpenClaim := { program := "ytmichnnkkpgpmaa", sum := "9ea8965318398e87dfa20ef475c1468b9f2683948eb3f048cf309430afe41958", func := "haulage/haulagelaw05.TreeStays", spec := "treeStays", unfollowed := true, recurses := true, apart := false }
def TreeStaysSaid : Prop := treeStaysRow.holds Try.pinned (OpenSpec.ofChange treeStaysSpec)

/-- ITS FALSE NEIGHBOUR: 'it returns false'. Refute it at one input. -/
def treeStaysWrong : ChangeSpec := { name := "treeStays", fn := fun _ => fun
  | [d1, d2, d3, d4] => { results := [.lit (.bool false)], args := [d1, d2, d3, d4] }
  | _ => none }
def TreeStaysWrongFalsely : Prop := treeStaysRow.holds Try.pinned (OpenSpec.ofChange treeStaysWrong)

/-- 'haulagelaw05.TreeParts': WHATEVER THE INPUT: true; the input reads as it did. -/
def treePartsSpec : ChangeSpec := { name := "treeParts", fn := fun _ => fun
  | [d1, d2, d3] => { results := [.lit (.bool true)], args := [d1, d2, d3] }
  | _ => none }
def treePartsRow : OpenClaim := { program := "ytmichnnkkpgpmaa", sum := "9ea8965318398e87dfa20ef475c1468b9f2683948eb3f048cf309430afe41958", func := "haulage/haulagelaw05.TreeParts", spec := "treeParts", unfollowed := true, recurses := true, apart := false }
def TreePartsSaid : Prop := treePartsRow.holds Try.pinned (OpenSpec.ofChange treePartsSpec)

/-- ITS FALSE NEIGHBOUR: 'it returns false'. Refute it at one input. -/
def treePartsWrong : ChangeSpec := { name := "treeParts", fn := fun _ => fun
  | [d1, d2, d3] => { results := [.lit (.bool false)], args := [d1, d2, d3] }
  | _ => none }
def TreePartsWrongFalsely : Prop := treePartsRow.holds Try.pinned (OpenSpec.ofChange treePartsWrong)

/-- 'haulagelaw05.TreeInts': WHATEVER THE INPUT: true; the input reads as it did. -/
def treeIntsSpec : ChangeSpec := { name := "treeInts", fn := fun _ => fun
  | [d] => { results := [.lit (.bool true)], args := [d] }
  | _ => none }
def treeIntsRow : OpenClaim := { program := "ytmichnnkkpgpmaa", sum := "9ea8965318398e87dfa20ef475c1468b9f2683948eb3f048cf309430afe41958", func := "haulage/haulagelaw05.TreeInts", spec := "treeInts", unfollowed := true, recurses := true, apart := false }
def TreeIntsSaid : Prop := treeIntsRow.holds Try.pinned (OpenSpec.ofChange treeIntsSpec)

/-- ITS FALSE NEIGHBOUR: 'it returns false'. Refute it at one input. -/
def treeIntsWrong : ChangeSpec := { name := "treeInts", fn := fun _ => fun
  | [d] => { results := [.lit (.bool false)], args := [d] }
  | _ => none }
def TreeIntsWrongFalsely : Prop := treeIntsRow.holds Try.pinned (OpenSpec.ofChange treeIntsWrong)

/-- 'haulagelaw05.TreeKnown': WHATEVER THE INPUT: true; the input reads as it did. -/
def treeKnownSpec : ChangeSpec := { name := "treeKnown", fn := fun _ => fun
  | [] => { results := [.lit (.bool true)], args := [] }
  | _ => none }
def treeKnownRow : OpenClaim := { program := "ytmichnnkkpgpmaa", sum := "9ea8965318398e87dfa20ef475c1468b9f2683948eb3f048cf309430afe41958", func := "haulage/haulagelaw05.TreeKnown", spec := "treeKnown", inPlace := ["math.Float64bits", "math.Float64frombits"], unfollowed := true, recurses := true, apart := false }
def TreeKnownSaid : Prop := treeKnownRow.holds Try.pinned (OpenSpec.ofChange treeKnownSpec)

/-- ITS FALSE NEIGHBOUR: 'it returns false'. Refute it at one input. -/
def treeKnownWrong : ChangeSpec := { name := "treeKnown", fn := fun _ => fun
  | [] => { results := [.lit (.bool false)], args := [] }
  | _ => none }
def TreeKnownWrongFalsely : Prop := treeKnownRow.holds Try.pinned (OpenSpec.ofChange treeKnownWrong)

/-- 'haulagelaw05.TreeReals': WHATEVER THE INPUT: true; the input reads as it did. -/
def treeRealsSpec : ChangeSpec := { name := "treeReals", fn := fun _ => fun
  | [d1, d2] => { results := [.lit (.bool true)], args := [d1, d2] }
  | _ => none }
def treeRealsRow : OpenClaim := { program := "ytmichnnkkpgpmaa", sum := "9ea8965318398e87dfa20ef475c1468b9f2683948eb3f048cf309430afe41958", func := "haulage/haulagelaw05.TreeReals", spec := "treeReals", inPlace := ["math.Float64frombits", "math.Float64bits"], unfollowed := true, recurses := true, apart := false }
def TreeRealsSaid : Prop := treeRealsRow.holds Try.pinned (OpenSpec.ofChange treeRealsSpec)

/-- ITS FALSE NEIGHBOUR: 'it returns false'. Refute it at one input. -/
def treeRealsWrong : ChangeSpec := { name := "treeReals", fn := fun _ => fun
  | [d1, d2] => { results := [.lit (.bool false)], args := [d1, d2] }
  | _ => none }
def TreeRealsWrongFalsely : Prop := treeRealsRow.holds Try.pinned (OpenSpec.ofChange treeRealsWrong)

/- THE SECOND FORM. 'bulk': how many values and letters a reading holds, each counted each time it is reached (what is shared counts as often as it is met; a slice's spare places count too). A statement '..UptoSaid' is the law's where the arguments, and the package variables that the reading takes, are together of bulk at most 1048576: NARROWER than '..Said'. Prove '..Said' where nothing that the law and all that it calls make is longer than what came in: it says more and counts as full. Else prove '..UptoSaid'. A law counts once. -/
mutual
def uptoBulk {H : Type} : DataW H → Nat
  | .lit (.string bytes) => bytes.length + 1
  | .lit _ => 1
  | .nil => 1
  | .ptr d => uptoBulk d + 1
  | .slice elems spare => uptoBulkAll elems + uptoBulkAll spare + 1
  | .agg parts => uptoBulkAll parts + 1
  | .iface _ d => uptoBulk d + 1
  | .map entries => uptoBulkEntries entries + 1
  | .held _ => 1
def uptoBulkAll {H : Type} : List (DataW H) → Nat
  | [] => 0
  | d :: r => uptoBulk d + uptoBulkAll r
def uptoBulkEntries {H : Type} : List (Lit × DataW H) → Nat
  | [] => 0
  | x :: r => uptoBulkEntry x + uptoBulkEntries r
def uptoBulkEntry {H : Type} : Lit × DataW H → Nat
  | (.string bytes, d) => bytes.length + uptoBulk d + 1
  | (_, d) => uptoBulk d + 1
 end
def uptoSmall : (H : Type) → List (DataW H) → Bool := fun _ ds => decide (uptoBulkAll ds ≤ 1048576)
def OpenSpec.upto (s : _root_.Go.ChangeSpec) : _root_.Go.OpenSpec := { _root_.Go.OpenSpec.ofChange s with cond := some uptoSmall }

/-- 'haulagelaw05.TreeLists', WHERE WHAT IT READS IS OF BULK AT MOST 1048576: true; the input reads as it did. -/
def treeListsUptoRow : OpenClaim := { program := "ytmichnnkkpgpmaa", sum := "9ea8965318398e87dfa20ef475c1468b9f2683948eb3f048cf309430afe41958", func := "haulage/haulagelaw05.TreeLists", spec := "treeLists", recurses := true, apart := false, narrowed := true }
def TreeListsUptoSaid : Prop := treeListsUptoRow.holds Try.pinned (OpenSpec.upto treeListsSpec)

/-- 'haulagelaw05.TreePlaces', WHERE WHAT IT READS IS OF BULK AT MOST 1048576: true; the input reads as it did. -/
def treePlacesUptoRow : OpenClaim := { program := "ytmichnnkkpgpmaa", sum := "9ea8965318398e87dfa20ef475c1468b9f2683948eb3f048cf309430afe41958", func := "haulage/haulagelaw05.TreePlaces", spec := "treePlaces", unfollowed := true, recurses := true, apart := false, narrowed := true }
def TreePlacesUptoSaid : Prop := treePlacesUptoRow.holds Try.pinned (OpenSpec.upto treePlacesSpec)

/-- 'haulagelaw05.TreeDepth', WHERE WHAT IT READS IS OF BULK AT MOST 1048576: true; the input reads as it did. -/
def treeDepthUptoRow : OpenClaim := { program := "ytmichnnkkpgpmaa", sum := "9ea8965318398e87dfa20ef475c1468b9f2683948eb3f048cf309430afe41958", func := "haulage/haulagelaw05.TreeDepth", spec := "treeDepth", unfollowed := true, recurses := true, apart := false, narrowed := true }
def TreeDepthUptoSaid : Prop := treeDepthUptoRow.holds Try.pinned (OpenSpec.upto treeDepthSpec)

/-- 'haulagelaw05.TreeStays', WHERE WHAT IT READS IS OF BULK AT MOST 1048576: true; the input reads as it did. -/
def treeStaysUptoRow : OpenClaim := { program := "ytmichnnkkpgpmaa", sum := "9ea8965318398e87dfa20ef475c1468b9f2683948eb3f048cf309430afe41958", func := "haulage/haulagelaw05.TreeStays", spec := "treeStays", unfollowed := true, recurses := true, apart := false, narrowed := true }
def TreeStaysUptoSaid : Prop := treeStaysUptoRow.holds Try.pinned (OpenSpec.upto treeStaysSpec)

/-- 'haulagelaw05.TreeParts', WHERE WHAT IT READS IS OF BULK AT MOST 1048576: true; the input reads as it did. -/
def treePartsUptoRow : OpenClaim := { program := "ytmichnnkkpgpmaa", sum := "9ea8965318398e87dfa20ef475c1468b9f2683948eb3f048cf309430afe41958", func := "haulage/haulagelaw05.TreeParts", spec := "treeParts", unfollowed := true, recurses := true, apart := false, narrowed := true }
def TreePartsUptoSaid : Prop := treePartsUptoRow.holds Try.pinned (OpenSpec.upto treePartsSpec)

/-- 'haulagelaw05.TreeInts', WHERE WHAT IT READS IS OF BULK AT MOST 1048576: true; the input reads as it did. -/
def treeIntsUptoRow : OpenClaim := { program := "ytmichnnkkpgpmaa", sum := "9ea8965318398e87dfa20ef475c1468b9f2683948eb3f048cf309430afe41958", func := "haulage/haulagelaw05.TreeInts", spec := "treeInts", unfollowed := true, recurses := true, apart := false, narrowed := true }
def TreeIntsUptoSaid : Prop := treeIntsUptoRow.holds Try.pinned (OpenSpec.upto treeIntsSpec)

/-- 'haulagelaw05.TreeKnown', WHERE WHAT IT READS IS OF BULK AT MOST 1048576: true; the input reads as it did. -/
def treeKnownUptoRow : OpenClaim := { program := "ytmichnnkkpgpmaa", sum := "9ea8965318398e87dfa20ef475c1468b9f2683948eb3f048cf309430afe41958", func := "haulage/haulagelaw05.TreeKnown", spec := "treeKnown", inPlace := ["math.Float64bits", "math.Float64frombits"], unfollowed := true, recurses := true, apart := false, narrowed := true }
def TreeKnownUptoSaid : Prop := treeKnownUptoRow.holds Try.pinned (OpenSpec.upto treeKnownSpec)

/-- 'haulagelaw05.TreeReals', WHERE WHAT IT READS IS OF BULK AT MOST 1048576: true; the input reads as it did. -/
def treeRealsUptoRow : OpenClaim := { program := "ytmichnnkkpgpmaa", sum := "9ea8965318398e87dfa20ef475c1468b9f2683948eb3f048cf309430afe41958", func := "haulage/haulagelaw05.TreeReals", spec := "treeReals", inPlace := ["math.Float64frombits", "math.Float64bits"], unfollowed := true, recurses := true, apart := false, narrowed := true }
def TreeRealsUptoSaid : Prop := treeRealsUptoRow.holds Try.pinned (OpenSpec.upto treeRealsSpec)

end Rows
end Go.Proofs.Ytmichnnkkpgpmaa
