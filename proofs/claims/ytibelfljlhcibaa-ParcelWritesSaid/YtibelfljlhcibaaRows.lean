/-
  No cell of these rows narrows 'for every input' (looked for: loops, veiled, ifaces, maps, wideKeys, modest, calm, conditions, laid).
  DERIVED. THE GIVEN ROWS OF THIS SEAT. 11 by the template 'for every input the law returns true; each argument reads behind the call as it read before'; 0 by the template 'total and deterministic' (their statements: YtibelfljlhcibaaTotals.lean).
  GIVEN WITH THE SEED: the statements are not yours to turn. If you find one false, say at which input.
  Laid BY PROGRAM, IN A SANDBOX (cutbox-rows.mjs): the forced cells as the released guide's own fill.sh prints them over the translation 43302f082d138fd0… (all of the seat's roots in one cut). By AI agents, Wed Nov 11 2026. No macro, syntax, notation, axiom, sorry.
-/
import Derived.Test.YtibelfljlhcibaaChecked
import GoSem.Claim
import GoSem.ClaimJoined
import GoSem.ClaimMapViews
import Derived.JoinedTies
import Derived.KernelRfl
namespace Go.Proofs.Ytibelfljlhcibaa
/- THE CELL 'sum', in the pinned program and in every row, IS THE sha256 OF THE DUMP (.gsa) THAT YtibelfljlhcibaaProg.lean LOADS. Nothing in Lean hashes anything: it is a label: what it is worth is what the hold of that sum in a sandbox is worth. -/
noncomputable def Try.pinned : Pinned := { name := "ytibelfljlhcibaa", sum := "43302f082d138fd05cd2e54f5792c7b79222e9d18c33a5643f1f942a5c3bda6e", checked := Try.checked }
namespace Rows
def none {H : Type} : Left H := { results := [], args := [] }

/-- 'haulagelaw01.ParcelNums': WHATEVER THE INPUT: true; the input reads as it did. -/
def parcelNumsSpec : ChangeSpec := { name := "parcelNums", fn := fun _ => fun
  | [d] => { results := [.lit (.bool true)], args := [d] }
  | _ => none }
def parcelNumsRow : OpenClaim := { program := "ytibelfljlhcibaa", sum := "43302f082d138fd05cd2e54f5792c7b79222e9d18c33a5643f1f942a5c3bda6e", func := "haulage/haulagelaw01.ParcelNums", spec := "parcelNums", unfollowed := true, recurses := true, apart := false }
def ParcelNumsSaid : Prop := parcelNumsRow.holds Try.pinned (OpenSpec.ofChange parcelNumsSpec)

/-- ITS FALSE NEIGHBOUR: 'it returns false'. Refute it at one input. -/
def parcelNumsWrong : ChangeSpec := { name := "parcelNums", fn := fun _ => fun
  | [d] => { results := [.lit (.bool false)], args := [d] }
  | _ => none }
def ParcelNumsWrongFalsely : Prop := parcelNumsRow.holds Try.pinned (OpenSpec.ofChange parcelNumsWrong)

/-- 'haulagelaw01.ParcelSigns': WHATEVER THE INPUT: true; the input reads as it did. -/
def parcelSignsSpec : ChangeSpec := { name := "parcelSigns", fn := fun _ => fun
  | [d] => { results := [.lit (.bool true)], args := [d] }
  | _ => none }
def parcelSignsRow : OpenClaim := { program := "ytibelfljlhcibaa", sum := "43302f082d138fd05cd2e54f5792c7b79222e9d18c33a5643f1f942a5c3bda6e", func := "haulage/haulagelaw01.ParcelSigns", spec := "parcelSigns", unfollowed := true, recurses := true, apart := false }
def ParcelSignsSaid : Prop := parcelSignsRow.holds Try.pinned (OpenSpec.ofChange parcelSignsSpec)

/-- ITS FALSE NEIGHBOUR: 'it returns false'. Refute it at one input. -/
def parcelSignsWrong : ChangeSpec := { name := "parcelSigns", fn := fun _ => fun
  | [d] => { results := [.lit (.bool false)], args := [d] }
  | _ => none }
def ParcelSignsWrongFalsely : Prop := parcelSignsRow.holds Try.pinned (OpenSpec.ofChange parcelSignsWrong)

/-- 'haulagelaw01.ParcelReals': WHATEVER THE INPUT: true; the input reads as it did. -/
def parcelRealsSpec : ChangeSpec := { name := "parcelReals", fn := fun _ => fun
  | [d] => { results := [.lit (.bool true)], args := [d] }
  | _ => none }
def parcelRealsRow : OpenClaim := { program := "ytibelfljlhcibaa", sum := "43302f082d138fd05cd2e54f5792c7b79222e9d18c33a5643f1f942a5c3bda6e", func := "haulage/haulagelaw01.ParcelReals", spec := "parcelReals", inPlace := ["math.Float64frombits", "math.Float64bits"], unfollowed := true, recurses := true, apart := false }
def ParcelRealsSaid : Prop := parcelRealsRow.holds Try.pinned (OpenSpec.ofChange parcelRealsSpec)

/-- ITS FALSE NEIGHBOUR: 'it returns false'. Refute it at one input. -/
def parcelRealsWrong : ChangeSpec := { name := "parcelReals", fn := fun _ => fun
  | [d] => { results := [.lit (.bool false)], args := [d] }
  | _ => none }
def ParcelRealsWrongFalsely : Prop := parcelRealsRow.holds Try.pinned (OpenSpec.ofChange parcelRealsWrong)

/-- 'haulagelaw01.ParcelReads': WHATEVER THE INPUT: true; the input reads as it did. -/
def parcelReadsSpec : ChangeSpec := { name := "parcelReads", fn := fun _ => fun
  | [d1, d2] => { results := [.lit (.bool true)], args := [d1, d2] }
  | _ => none }
def parcelReadsRow : OpenClaim := { program := "ytibelfljlhcibaa", sum := "43302f082d138fd05cd2e54f5792c7b79222e9d18c33a5643f1f942a5c3bda6e", func := "haulage/haulagelaw01.ParcelReads", spec := "parcelReads", inPlace := ["math.Float64frombits", "math.Float64bits"], unfollowed := true, recurses := true, apart := false }
def ParcelReadsSaid : Prop := parcelReadsRow.holds Try.pinned (OpenSpec.ofChange parcelReadsSpec)

/-- ITS FALSE NEIGHBOUR: 'it returns false'. Refute it at one input. -/
def parcelReadsWrong : ChangeSpec := { name := "parcelReads", fn := fun _ => fun
  | [d1, d2] => { results := [.lit (.bool false)], args := [d1, d2] }
  | _ => none }
def ParcelReadsWrongFalsely : Prop := parcelReadsRow.holds Try.pinned (OpenSpec.ofChange parcelReadsWrong)

/-- 'haulagelaw01.ParcelWrites': WHATEVER THE INPUT: true; the input reads as it did. -/
def parcelWritesSpec : ChangeSpec := { name := "parcelWrites", fn := fun _ => fun
  | [d1, d2] => { results := [.lit (.bool true)], args := [d1, d2] }
  | _ => none }
def parcelWritesRow : OpenClaim := { program := "ytibelfljlhcibaa", sum := "43302f082d138fd05cd2e54f5792c7b79222e9d18c33a5643f1f942a5c3bda6e", func := "haulage/haulagelaw01.ParcelWrites", spec := "parcelWrites", inPlace := ["math.Float64frombits", "math.Float64bits", "slices.overlaps[byte]"], apart := false }
def ParcelWritesSaid : Prop := parcelWritesRow.holds Try.pinned (OpenSpec.ofChange parcelWritesSpec)

/-- ITS FALSE NEIGHBOUR: 'it returns false'. Refute it at one input. -/
def parcelWritesWrong : ChangeSpec := { name := "parcelWrites", fn := fun _ => fun
  | [d1, d2] => { results := [.lit (.bool false)], args := [d1, d2] }
  | _ => none }
def ParcelWritesWrongFalsely : Prop := parcelWritesRow.holds Try.pinned (OpenSpec.ofChange parcelWritesWrong)

/-- 'haulagelaw01.ParcelReaderOwn': WHATEVER THE INPUT: true; the input reads as it did. -/
def parcelReaderOwnSpec : ChangeSpec := { name := "parcelReaderOwn", fn := fun _ => fun
  | [d] => { results := [.lit (.bool true)], args := [d] }
  | _ => none }
def parcelReaderOwnRow : OpenClaim := { program := "ytibelfljlhcibaa", sum := "43302f082d138fd05cd2e54f5792c7b79222e9d18c33a5643f1f942a5c3bda6e", func := "haulage/haulagelaw01.ParcelReaderOwn", spec := "parcelReaderOwn", inPlace := ["slices.overlaps[byte]"], unfollowed := true, recurses := true, apart := false }
def ParcelReaderOwnSaid : Prop := parcelReaderOwnRow.holds Try.pinned (OpenSpec.ofChange parcelReaderOwnSpec)

/-- ITS FALSE NEIGHBOUR: 'it returns false'. Refute it at one input. -/
def parcelReaderOwnWrong : ChangeSpec := { name := "parcelReaderOwn", fn := fun _ => fun
  | [d] => { results := [.lit (.bool false)], args := [d] }
  | _ => none }
def ParcelReaderOwnWrongFalsely : Prop := parcelReaderOwnRow.holds Try.pinned (OpenSpec.ofChange parcelReaderOwnWrong)

/-- 'haulagelaw01.ParcelWriterOwn': WHATEVER THE INPUT: true; the input reads as it did. -/
def parcelWriterOwnSpec : ChangeSpec := { name := "parcelWriterOwn", fn := fun _ => fun
  | [d1, d2] => { results := [.lit (.bool true)], args := [d1, d2] }
  | _ => none }
def parcelWriterOwnRow : OpenClaim := { program := "ytibelfljlhcibaa", sum := "43302f082d138fd05cd2e54f5792c7b79222e9d18c33a5643f1f942a5c3bda6e", func := "haulage/haulagelaw01.ParcelWriterOwn", spec := "parcelWriterOwn", inPlace := ["slices.overlaps[byte]"], unfollowed := true, recurses := true, apart := false }
def ParcelWriterOwnSaid : Prop := parcelWriterOwnRow.holds Try.pinned (OpenSpec.ofChange parcelWriterOwnSpec)

/-- ITS FALSE NEIGHBOUR: 'it returns false'. Refute it at one input. -/
def parcelWriterOwnWrong : ChangeSpec := { name := "parcelWriterOwn", fn := fun _ => fun
  | [d1, d2] => { results := [.lit (.bool false)], args := [d1, d2] }
  | _ => none }
def ParcelWriterOwnWrongFalsely : Prop := parcelWriterOwnRow.holds Try.pinned (OpenSpec.ofChange parcelWriterOwnWrong)

/-- 'haulagelaw01.ParcelShut': WHATEVER THE INPUT: true; the input reads as it did. -/
def parcelShutSpec : ChangeSpec := { name := "parcelShut", fn := fun _ => fun
  | [d1, d2, d3] => { results := [.lit (.bool true)], args := [d1, d2, d3] }
  | _ => none }
def parcelShutRow : OpenClaim := { program := "ytibelfljlhcibaa", sum := "43302f082d138fd05cd2e54f5792c7b79222e9d18c33a5643f1f942a5c3bda6e", func := "haulage/haulagelaw01.ParcelShut", spec := "parcelShut", inPlace := ["slices.overlaps[byte]", "math.Float64frombits", "math.Float64bits"], unfollowed := true, recurses := true, apart := false }
def ParcelShutSaid : Prop := parcelShutRow.holds Try.pinned (OpenSpec.ofChange parcelShutSpec)

/-- ITS FALSE NEIGHBOUR: 'it returns false'. Refute it at one input. -/
def parcelShutWrong : ChangeSpec := { name := "parcelShut", fn := fun _ => fun
  | [d1, d2, d3] => { results := [.lit (.bool false)], args := [d1, d2, d3] }
  | _ => none }
def ParcelShutWrongFalsely : Prop := parcelShutRow.holds Try.pinned (OpenSpec.ofChange parcelShutWrong)

/-- 'haulagelaw01.ParcelTrees': WHATEVER THE INPUT: true; the input reads as it did. -/
def parcelTreesSpec : ChangeSpec := { name := "parcelTrees", fn := fun _ => fun
  | [d] => { results := [.lit (.bool true)], args := [d] }
  | _ => none }
def parcelTreesRow : OpenClaim := { program := "ytibelfljlhcibaa", sum := "43302f082d138fd05cd2e54f5792c7b79222e9d18c33a5643f1f942a5c3bda6e", func := "haulage/haulagelaw01.ParcelTrees", spec := "parcelTrees", inPlace := ["slices.overlaps[byte]", "math.Float64frombits", "math.Float64bits"], unfollowed := true, recurses := true, apart := false }
def ParcelTreesSaid : Prop := parcelTreesRow.holds Try.pinned (OpenSpec.ofChange parcelTreesSpec)

/-- ITS FALSE NEIGHBOUR: 'it returns false'. Refute it at one input. -/
def parcelTreesWrong : ChangeSpec := { name := "parcelTrees", fn := fun _ => fun
  | [d] => { results := [.lit (.bool false)], args := [d] }
  | _ => none }
def ParcelTreesWrongFalsely : Prop := parcelTreesRow.holds Try.pinned (OpenSpec.ofChange parcelTreesWrong)

/-- 'haulagelaw01.ParcelForms': WHATEVER THE INPUT: true; the input reads as it did. -/
def parcelFormsSpec : ChangeSpec := { name := "parcelForms", fn := fun _ => fun
  | [d1, d2] => { results := [.lit (.bool true)], args := [d1, d2] }
  | _ => none }
def parcelFormsRow : OpenClaim := { program := "ytibelfljlhcibaa", sum := "43302f082d138fd05cd2e54f5792c7b79222e9d18c33a5643f1f942a5c3bda6e", func := "haulage/haulagelaw01.ParcelForms", spec := "parcelForms", inPlace := ["slices.overlaps[byte]", "math.Float64frombits", "math.Float64bits"], unfollowed := true, recurses := true, apart := false }
def ParcelFormsSaid : Prop := parcelFormsRow.holds Try.pinned (OpenSpec.ofChange parcelFormsSpec)

/-- ITS FALSE NEIGHBOUR: 'it returns false'. Refute it at one input. -/
def parcelFormsWrong : ChangeSpec := { name := "parcelForms", fn := fun _ => fun
  | [d1, d2] => { results := [.lit (.bool false)], args := [d1, d2] }
  | _ => none }
def ParcelFormsWrongFalsely : Prop := parcelFormsRow.holds Try.pinned (OpenSpec.ofChange parcelFormsWrong)

/-- 'haulagelaw01.ParcelRefuses': WHATEVER THE INPUT: true; the input reads as it did. -/
def parcelRefusesSpec : ChangeSpec := { name := "parcelRefuses", fn := fun _ => fun
  | [d1, d2, d3] => { results := [.lit (.bool true)], args := [d1, d2, d3] }
  | _ => none }
def parcelRefusesRow : OpenClaim := { program := "ytibelfljlhcibaa", sum := "43302f082d138fd05cd2e54f5792c7b79222e9d18c33a5643f1f942a5c3bda6e", func := "haulage/haulagelaw01.ParcelRefuses", spec := "parcelRefuses", inPlace := ["slices.overlaps[byte]", "math.Float64frombits", "math.Float64bits"], unfollowed := true, recurses := true, apart := false }
def ParcelRefusesSaid : Prop := parcelRefusesRow.holds Try.pinned (OpenSpec.ofChange parcelRefusesSpec)

/-- ITS FALSE NEIGHBOUR: 'it returns false'. Refute it at one input. -/
def parcelRefusesWrong : ChangeSpec := { name := "parcelRefuses", fn := fun _ => fun
  | [d1, d2, d3] => { results := [.lit (.bool false)], args := [d1, d2, d3] }
  | _ => none }
def ParcelRefusesWrongFalsely : Prop := parcelRefusesRow.holds Try.pinned (OpenSpec.ofChange parcelRefusesWrong)

/- THE SECOND FORM. 'bulk': how many values and letters a reading holds, each counted each time it is reached (what is shared counts as often as it is met; a slice's spare places count too). A statement '..UptoSaid' is the law's where the arguments, and the package variables that the reading takes, are together of bulk at most 1048576: NARROWER than '..Said'. Prove '..Said' where nothing that the law and all that it calls make is longer than what came in: it says more and counts as full. Else prove '..UptoSaid'. A law counts once. -/
mutual
def uptoBulk {H : Type} : DataW H → Nat
  | .lit (.string bytes) => bytes.length + 1
  | .lit _ => 1
  | .nil => 1
  | .ptr d => uptoBulk d + 1
  | .slice elems spare => uptoBulkAll elems + uptoBulkAll spare + 1
  | .agg parts => uptoBulkAll parts + 1
  | .iface _ d => uptoBulk d + 1
  | .map entries => uptoBulkEntries entries + 1
  | .held _ => 1
def uptoBulkAll {H : Type} : List (DataW H) → Nat
  | [] => 0
  | d :: r => uptoBulk d + uptoBulkAll r
def uptoBulkEntries {H : Type} : List (Lit × DataW H) → Nat
  | [] => 0
  | x :: r => uptoBulkEntry x + uptoBulkEntries r
def uptoBulkEntry {H : Type} : Lit × DataW H → Nat
  | (.string bytes, d) => bytes.length + uptoBulk d + 1
  | (_, d) => uptoBulk d + 1
 end
def uptoSmall : (H : Type) → List (DataW H) → Bool := fun _ ds => decide (uptoBulkAll ds ≤ 1048576)
def OpenSpec.upto (s : _root_.Go.ChangeSpec) : _root_.Go.OpenSpec := { _root_.Go.OpenSpec.ofChange s with cond := some uptoSmall }

/-- 'haulagelaw01.ParcelNums', WHERE WHAT IT READS IS OF BULK AT MOST 1048576: true; the input reads as it did. -/
def parcelNumsUptoRow : OpenClaim := { program := "ytibelfljlhcibaa", sum := "43302f082d138fd05cd2e54f5792c7b79222e9d18c33a5643f1f942a5c3bda6e", func := "haulage/haulagelaw01.ParcelNums", spec := "parcelNums", unfollowed := true, recurses := true, apart := false, narrowed := true }
def ParcelNumsUptoSaid : Prop := parcelNumsUptoRow.holds Try.pinned (OpenSpec.upto parcelNumsSpec)

/-- 'haulagelaw01.ParcelSigns', WHERE WHAT IT READS IS OF BULK AT MOST 1048576: true; the input reads as it did. -/
def parcelSignsUptoRow : OpenClaim := { program := "ytibelfljlhcibaa", sum := "43302f082d138fd05cd2e54f5792c7b79222e9d18c33a5643f1f942a5c3bda6e", func := "haulage/haulagelaw01.ParcelSigns", spec := "parcelSigns", unfollowed := true, recurses := true, apart := false, narrowed := true }
def ParcelSignsUptoSaid : Prop := parcelSignsUptoRow.holds Try.pinned (OpenSpec.upto parcelSignsSpec)

/-- 'haulagelaw01.ParcelReals', WHERE WHAT IT READS IS OF BULK AT MOST 1048576: true; the input reads as it did. -/
def parcelRealsUptoRow : OpenClaim := { program := "ytibelfljlhcibaa", sum := "43302f082d138fd05cd2e54f5792c7b79222e9d18c33a5643f1f942a5c3bda6e", func := "haulage/haulagelaw01.ParcelReals", spec := "parcelReals", inPlace := ["math.Float64frombits", "math.Float64bits"], unfollowed := true, recurses := true, apart := false, narrowed := true }
def ParcelRealsUptoSaid : Prop := parcelRealsUptoRow.holds Try.pinned (OpenSpec.upto parcelRealsSpec)

/-- 'haulagelaw01.ParcelReads', WHERE WHAT IT READS IS OF BULK AT MOST 1048576: true; the input reads as it did. -/
def parcelReadsUptoRow : OpenClaim := { program := "ytibelfljlhcibaa", sum := "43302f082d138fd05cd2e54f5792c7b79222e9d18c33a5643f1f942a5c3bda6e", func := "haulage/haulagelaw01.ParcelReads", spec := "parcelReads", inPlace := ["math.Float64frombits", "math.Float64bits"], unfollowed := true, recurses := true, apart := false, narrowed := true }
def ParcelReadsUptoSaid : Prop := parcelReadsUptoRow.holds Try.pinned (OpenSpec.upto parcelReadsSpec)

/-- 'haulagelaw01.ParcelWrites', WHERE WHAT IT READS IS OF BULK AT MOST 1048576: true; the input reads as it did. -/
def parcelWritesUptoRow : OpenClaim := { program := "ytibelfljlhcibaa", sum := "43302f082d138fd05cd2e54f5792c7b79222e9d18c33a5643f1f942a5c3bda6e", func := "haulage/haulagelaw01.ParcelWrites", spec := "parcelWrites", inPlace := ["math.Float64frombits", "math.Float64bits", "slices.overlaps[byte]"], apart := false, narrowed := true }
def ParcelWritesUptoSaid : Prop := parcelWritesUptoRow.holds Try.pinned (OpenSpec.upto parcelWritesSpec)

/-- 'haulagelaw01.ParcelReaderOwn', WHERE WHAT IT READS IS OF BULK AT MOST 1048576: true; the input reads as it did. -/
def parcelReaderOwnUptoRow : OpenClaim := { program := "ytibelfljlhcibaa", sum := "43302f082d138fd05cd2e54f5792c7b79222e9d18c33a5643f1f942a5c3bda6e", func := "haulage/haulagelaw01.ParcelReaderOwn", spec := "parcelReaderOwn", inPlace := ["slices.overlaps[byte]"], unfollowed := true, recurses := true, apart := false, narrowed := true }
def ParcelReaderOwnUptoSaid : Prop := parcelReaderOwnUptoRow.holds Try.pinned (OpenSpec.upto parcelReaderOwnSpec)

/-- 'haulagelaw01.ParcelWriterOwn', WHERE WHAT IT READS IS OF BULK AT MOST 1048576: true; the input reads as it did. -/
def parcelWriterOwnUptoRow : OpenClaim := { program := "ytibelfljlhcibaa", sum := "43302f082d138fd05cd2e54f5792c7b79222e9d18c33a5643f1f942a5c3bda6e", func := "haulage/haulagelaw01.ParcelWriterOwn", spec := "parcelWriterOwn", inPlace := ["slices.overlaps[byte]"], unfollowed := true, recurses := true, apart := false, narrowed := true }
def ParcelWriterOwnUptoSaid : Prop := parcelWriterOwnUptoRow.holds Try.pinned (OpenSpec.upto parcelWriterOwnSpec)

/-- 'haulagelaw01.ParcelShut', WHERE WHAT IT READS IS OF BULK AT MOST 1048576: true; the input reads as it did. -/
def parcelShutUptoRow : OpenClaim := { program := "ytibelfljlhcibaa", sum := "43302f082d138fd05cd2e54f5792c7b79222e9d18c33a5643f1f942a5c3bda6e", func := "haulage/haulagelaw01.ParcelShut", spec := "parcelShut", inPlace := ["slices.overlaps[byte]", "math.Float64frombits", "math.Float64bits"], unfollowed := true, recurses := true, apart := false, narrowed := true }
def ParcelShutUptoSaid : Prop := parcelShutUptoRow.holds Try.pinned (OpenSpec.upto parcelShutSpec)

/-- 'haulagelaw01.ParcelTrees', WHERE WHAT IT READS IS OF BULK AT MOST 1048576: true; the input reads as it did. -/
def parcelTreesUptoRow : OpenClaim := { program := "ytibelfljlhcibaa", sum := "43302f082d138fd05cd2e54f5792c7b79222e9d18c33a5643f1f942a5c3bda6e", func := "haulage/haulagelaw01.ParcelTrees", spec := "parcelTrees", inPlace := ["slices.overlaps[byte]", "math.Float64frombits", "math.Float64bits"], unfollowed := true, recurses := true, apart := false, narrowed := true }
def ParcelTreesUptoSaid : Prop := parcelTreesUptoRow.holds Try.pinned (OpenSpec.upto parcelTreesSpec)

/-- 'haulagelaw01.ParcelForms', WHERE WHAT IT READS IS OF BULK AT MOST 1048576: true; the input reads as it did. -/
def parcelFormsUptoRow : OpenClaim := { program := "ytibelfljlhcibaa", sum := "43302f082d138fd05cd2e54f5792c7b79222e9d18c33a5643f1f942a5c3bda6e", func := "haulage/haulagelaw01.ParcelForms", spec := "parcelForms", inPlace := ["slices.overlaps[byte]", "math.Float64frombits", "math.Float64bits"], unfollowed := true, recurses := true, apart := false, narrowed := true }
def ParcelFormsUptoSaid : Prop := parcelFormsUptoRow.holds Try.pinned (OpenSpec.upto parcelFormsSpec)

/-- 'haulagelaw01.ParcelRefuses', WHERE WHAT IT READS IS OF BULK AT MOST 1048576: true; the input reads as it did. -/
def parcelRefusesUptoRow : OpenClaim := { program := "ytibelfljlhcibaa", sum := "43302f082d138fd05cd2e54f5792c7b79222e9d18c33a5643f1f942a5c3bda6e", func := "haulage/haulagelaw01.ParcelRefuses", spec := "parcelRefuses", inPlace := ["slices.overlaps[byte]", "math.Float64frombits", "math.Float64bits"], unfollowed := true, recurses := true, apart := false, narrowed := true }
def ParcelRefusesUptoSaid : Prop := parcelRefusesUptoRow.holds Try.pinned (OpenSpec.upto parcelRefusesSpec)

end Rows
end Go.Proofs.Ytibelfljlhcibaa
