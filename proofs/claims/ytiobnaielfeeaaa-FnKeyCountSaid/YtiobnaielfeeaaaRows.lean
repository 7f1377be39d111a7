/-
  No cell of these rows narrows 'for every input' (looked for: loops, veiled, ifaces, maps, wideKeys, modest, calm, conditions, laid).
  DERIVED. THE GIVEN ROWS OF THIS SEAT. 10 by the template 'for every input the law returns true; each argument reads behind the call as it read before'; 0 by the template 'total and deterministic' (their statements: YtiobnaielfeeaaaTotals.lean).
  GIVEN WITH THE SEED: the statements are not yours to turn. If you find one false, say at which input.
  Laid BY PROGRAM, IN A SANDBOX (cutbox-rows.mjs): the forced cells as the released guide's own fill.sh prints them over the translation 2a5b14b45b885172… (all of the seat's roots in one cut). By AI agents, Wed Nov 11 2026. No macro, syntax, notation, axiom, sorry.
-/
import Derived.Test.YtiobnaielfeeaaaChecked
import GoSem.Claim
import GoSem.ClaimJoined
import GoSem.ClaimMapViews
import Derived.JoinedTies
import Derived.KernelRfl
namespace Go.Proofs.Ytiobnaielfeeaaa
/- THE CELL 'sum', in the pinned program and in every row, IS THE sha256 OF THE DUMP (.gsa) THAT YtiobnaielfeeaaaProg.lean LOADS. Nothing in Lean hashes anything: it is a label: what it is worth is what the hold of that sum in a sandbox is worth. -/
noncomputable def Try.pinned : Pinned := { name := "ytiobnaielfeeaaa", sum := "2a5b14b45b8851728e55fd3280198c3fcdf66032e60d94b4add85b83e2a96add", checked := Try.checked }
namespace Rows
def none {H : Type} : Left H := { results := [], args := [] }

/-- 'laws.FnFitsShape': WHATEVER THE INPUT: true; the input reads as it did. -/
def fnFitsShapeSpec : ChangeSpec := { name := "fnFitsShape", fn := fun _ => fun
  | [d] => { results := [.lit (.bool true)], args := [d] }
  | _ => none }
def fnFitsShapeRow : OpenClaim := { program := "ytiobnaielfeeaaa", sum := "2a5b14b45b8851728e55fd3280198c3fcdf66032e60d94b4add85b83e2a96add", func := "loop.example/resourcestore/laws.FnFitsShape", spec := "fnFitsShape", recurses := true, apart := false }
def FnFitsShapeSaid : Prop := fnFitsShapeRow.holds Try.pinned (OpenSpec.ofChange fnFitsShapeSpec)

/-- ITS FALSE NEIGHBOUR: 'it returns false'. Refute it at one input. -/
def fnFitsShapeWrong : ChangeSpec := { name := "fnFitsShape", fn := fun _ => fun
  | [d] => { results := [.lit (.bool false)], args := [d] }
  | _ => none }
def FnFitsShapeWrongFalsely : Prop := fnFitsShapeRow.holds Try.pinned (OpenSpec.ofChange fnFitsShapeWrong)

/-- 'laws.FnCompareNodesKind': WHATEVER THE INPUT: true; the input reads as it did. -/
def fnCompareNodesKindSpec : ChangeSpec := { name := "fnCompareNodesKind", fn := fun _ => fun
  | [d] => { results := [.lit (.bool true)], args := [d] }
  | _ => none }
def fnCompareNodesKindRow : OpenClaim := { program := "ytiobnaielfeeaaa", sum := "2a5b14b45b8851728e55fd3280198c3fcdf66032e60d94b4add85b83e2a96add", func := "loop.example/resourcestore/laws.FnCompareNodesKind", spec := "fnCompareNodesKind", inPlace := ["internal/bytealg.abigen_runtime_cmpstring"], recurses := true, apart := false }
def FnCompareNodesKindSaid : Prop := fnCompareNodesKindRow.holds Try.pinned (OpenSpec.ofChange fnCompareNodesKindSpec)

/-- ITS FALSE NEIGHBOUR: 'it returns false'. Refute it at one input. -/
def fnCompareNodesKindWrong : ChangeSpec := { name := "fnCompareNodesKind", fn := fun _ => fun
  | [d] => { results := [.lit (.bool false)], args := [d] }
  | _ => none }
def FnCompareNodesKindWrongFalsely : Prop := fnCompareNodesKindRow.holds Try.pinned (OpenSpec.ofChange fnCompareNodesKindWrong)

/-- 'laws.FnCompareNodesThree': WHATEVER THE INPUT: true; the input reads as it did. -/
def fnCompareNodesThreeSpec : ChangeSpec := { name := "fnCompareNodesThree", fn := fun _ => fun
  | [d] => { results := [.lit (.bool true)], args := [d] }
  | _ => none }
def fnCompareNodesThreeRow : OpenClaim := { program := "ytiobnaielfeeaaa", sum := "2a5b14b45b8851728e55fd3280198c3fcdf66032e60d94b4add85b83e2a96add", func := "loop.example/resourcestore/laws.FnCompareNodesThree", spec := "fnCompareNodesThree", inPlace := ["internal/bytealg.abigen_runtime_cmpstring"], recurses := true, apart := false }
def FnCompareNodesThreeSaid : Prop := fnCompareNodesThreeRow.holds Try.pinned (OpenSpec.ofChange fnCompareNodesThreeSpec)

/-- ITS FALSE NEIGHBOUR: 'it returns false'. Refute it at one input. -/
def fnCompareNodesThreeWrong : ChangeSpec := { name := "fnCompareNodesThree", fn := fun _ => fun
  | [d] => { results := [.lit (.bool false)], args := [d] }
  | _ => none }
def FnCompareNodesThreeWrongFalsely : Prop := fnCompareNodesThreeRow.holds Try.pinned (OpenSpec.ofChange fnCompareNodesThreeWrong)

/-- 'laws.FnCompareNodes': WHATEVER THE INPUT: true; the input reads as it did. -/
def fnCompareNodesSpec : ChangeSpec := { name := "fnCompareNodes", fn := fun _ => fun
  | [d] => { results := [.lit (.bool true)], args := [d] }
  | _ => none }
def fnCompareNodesRow : OpenClaim := { program := "ytiobnaielfeeaaa", sum := "2a5b14b45b8851728e55fd3280198c3fcdf66032e60d94b4add85b83e2a96add", func := "loop.example/resourcestore/laws.FnCompareNodes", spec := "fnCompareNodes", inPlace := ["internal/bytealg.abigen_runtime_cmpstring"], recurses := true, apart := false }
def FnCompareNodesSaid : Prop := fnCompareNodesRow.holds Try.pinned (OpenSpec.ofChange fnCompareNodesSpec)

/-- ITS FALSE NEIGHBOUR: 'it returns false'. Refute it at one input. -/
def fnCompareNodesWrong : ChangeSpec := { name := "fnCompareNodes", fn := fun _ => fun
  | [d] => { results := [.lit (.bool false)], args := [d] }
  | _ => none }
def FnCompareNodesWrongFalsely : Prop := fnCompareNodesRow.holds Try.pinned (OpenSpec.ofChange fnCompareNodesWrong)

/-- 'laws.FnIsPlain': WHATEVER THE INPUT: true; the input reads as it did. -/
def fnIsPlainSpec : ChangeSpec := { name := "fnIsPlain", fn := fun _ => fun
  | [d] => { results := [.lit (.bool true)], args := [d] }
  | _ => none }
def fnIsPlainRow : OpenClaim := { program := "ytiobnaielfeeaaa", sum := "2a5b14b45b8851728e55fd3280198c3fcdf66032e60d94b4add85b83e2a96add", func := "loop.example/resourcestore/laws.FnIsPlain", spec := "fnIsPlain", inPlace := ["slices.overlaps[string]", "slices.overlaps[loop.example/resourcestore/impl.Node]"], recurses := true, apart := false }
def FnIsPlainSaid : Prop := fnIsPlainRow.holds Try.pinned (OpenSpec.ofChange fnIsPlainSpec)

/-- ITS FALSE NEIGHBOUR: 'it returns false'. Refute it at one input. -/
def fnIsPlainWrong : ChangeSpec := { name := "fnIsPlain", fn := fun _ => fun
  | [d] => { results := [.lit (.bool false)], args := [d] }
  | _ => none }
def FnIsPlainWrongFalsely : Prop := fnIsPlainRow.holds Try.pinned (OpenSpec.ofChange fnIsPlainWrong)

/-- 'laws.FnKeyCount': WHATEVER THE INPUT: true; the input reads as it did. -/
def fnKeyCountSpec : ChangeSpec := { name := "fnKeyCount", fn := fun _ => fun
  | [d] => { results := [.lit (.bool true)], args := [d] }
  | _ => none }
def fnKeyCountRow : OpenClaim := { program := "ytiobnaielfeeaaa", sum := "2a5b14b45b8851728e55fd3280198c3fcdf66032e60d94b4add85b83e2a96add", func := "loop.example/resourcestore/laws.FnKeyCount", spec := "fnKeyCount", inPlace := ["internal/bytealg.abigen_runtime_cmpstring"], unfollowed := true, recurses := true, apart := false }
def FnKeyCountSaid : Prop := fnKeyCountRow.holds Try.pinned (OpenSpec.ofChange fnKeyCountSpec)

/-- ITS FALSE NEIGHBOUR: 'it returns false'. Refute it at one input. -/
def fnKeyCountWrong : ChangeSpec := { name := "fnKeyCount", fn := fun _ => fun
  | [d] => { results := [.lit (.bool false)], args := [d] }
  | _ => none }
def FnKeyCountWrongFalsely : Prop := fnKeyCountRow.holds Try.pinned (OpenSpec.ofChange fnKeyCountWrong)

/-- 'laws.FnFindRange': WHATEVER THE INPUT: true; the input reads as it did. -/
def fnFindRangeSpec : ChangeSpec := { name := "fnFindRange", fn := fun _ => fun
  | [d] => { results := [.lit (.bool true)], args := [d] }
  | _ => none }
def fnFindRangeRow : OpenClaim := { program := "ytiobnaielfeeaaa", sum := "2a5b14b45b8851728e55fd3280198c3fcdf66032e60d94b4add85b83e2a96add", func := "loop.example/resourcestore/laws.FnFindRange", spec := "fnFindRange", inPlace := ["internal/bytealg.abigen_runtime_cmpstring"], recurses := true, apart := false }
def FnFindRangeSaid : Prop := fnFindRangeRow.holds Try.pinned (OpenSpec.ofChange fnFindRangeSpec)

/-- ITS FALSE NEIGHBOUR: 'it returns false'. Refute it at one input. -/
def fnFindRangeWrong : ChangeSpec := { name := "fnFindRange", fn := fun _ => fun
  | [d] => { results := [.lit (.bool false)], args := [d] }
  | _ => none }
def FnFindRangeWrongFalsely : Prop := fnFindRangeRow.holds Try.pinned (OpenSpec.ofChange fnFindRangeWrong)

/-- 'laws.FnMergeNode': WHATEVER THE INPUT: true; the input reads as it did. -/
def fnMergeNodeSpec : ChangeSpec := { name := "fnMergeNode", fn := fun _ => fun
  | [d] => { results := [.lit (.bool true)], args := [d] }
  | _ => none }
def fnMergeNodeRow : OpenClaim := { program := "ytiobnaielfeeaaa", sum := "2a5b14b45b8851728e55fd3280198c3fcdf66032e60d94b4add85b83e2a96add", func := "loop.example/resourcestore/laws.FnMergeNode", spec := "fnMergeNode", inPlace := ["slices.overlaps[string]", "slices.overlaps[loop.example/resourcestore/impl.Node]"], recurses := true, apart := false }
def FnMergeNodeSaid : Prop := fnMergeNodeRow.holds Try.pinned (OpenSpec.ofChange fnMergeNodeSpec)

/-- ITS FALSE NEIGHBOUR: 'it returns false'. Refute it at one input. -/
def fnMergeNodeWrong : ChangeSpec := { name := "fnMergeNode", fn := fun _ => fun
  | [d] => { results := [.lit (.bool false)], args := [d] }
  | _ => none }
def FnMergeNodeWrongFalsely : Prop := fnMergeNodeRow.holds Try.pinned (OpenSpec.ofChange fnMergeNodeWrong)

/-- 'laws.FnMergeNodeTwice': WHATEVER THE INPUT: true; the input reads as it did. -/
def fnMergeNodeTwiceSpec : ChangeSpec := { name := "fnMergeNodeTwice", fn := fun _ => fun
  | [d] => { results := [.lit (.bool true)], args := [d] }
  | _ => none }
def fnMergeNodeTwiceRow : OpenClaim := { program := "ytiobnaielfeeaaa", sum := "2a5b14b45b8851728e55fd3280198c3fcdf66032e60d94b4add85b83e2a96add", func := "loop.example/resourcestore/laws.FnMergeNodeTwice", spec := "fnMergeNodeTwice", inPlace := ["slices.overlaps[string]", "slices.overlaps[loop.example/resourcestore/impl.Node]"], recurses := true, apart := false }
def FnMergeNodeTwiceSaid : Prop := fnMergeNodeTwiceRow.holds Try.pinned (OpenSpec.ofChange fnMergeNodeTwiceSpec)

/-- ITS FALSE NEIGHBOUR: 'it returns false'. Refute it at one input. -/
def fnMergeNodeTwiceWrong : ChangeSpec := { name := "fnMergeNodeTwice", fn := fun _ => fun
  | [d] => { results := [.lit (.bool false)], args := [d] }
  | _ => none }
def FnMergeNodeTwiceWrongFalsely : Prop := fnMergeNodeTwiceRow.holds Try.pinned (OpenSpec.ofChange fnMergeNodeTwiceWrong)

/-- 'laws.FnMergeNodeNames': WHATEVER THE INPUT: true; the input reads as it did. -/
def fnMergeNodeNamesSpec : ChangeSpec := { name := "fnMergeNodeNames", fn := fun _ => fun
  | [d] => { results := [.lit (.bool true)], args := [d] }
  | _ => none }
def fnMergeNodeNamesRow : OpenClaim := { program := "ytiobnaielfeeaaa", sum := "2a5b14b45b8851728e55fd3280198c3fcdf66032e60d94b4add85b83e2a96add", func := "loop.example/resourcestore/laws.FnMergeNodeNames", spec := "fnMergeNodeNames", inPlace := ["slices.overlaps[string]", "slices.overlaps[loop.example/resourcestore/impl.Node]"], recurses := true, apart := false }
def FnMergeNodeNamesSaid : Prop := fnMergeNodeNamesRow.holds Try.pinned (OpenSpec.ofChange fnMergeNodeNamesSpec)

/-- ITS FALSE NEIGHBOUR: 'it returns false'. Refute it at one input. -/
def fnMergeNodeNamesWrong : ChangeSpec := { name := "fnMergeNodeNames", fn := fun _ => fun
  | [d] => { results := [.lit (.bool false)], args := [d] }
  | _ => none }
def FnMergeNodeNamesWrongFalsely : Prop := fnMergeNodeNamesRow.holds Try.pinned (OpenSpec.ofChange fnMergeNodeNamesWrong)

/- THE SECOND FORM. 'bulk': how many values and letters a reading holds, each counted each time it is reached (what is shared counts as often as it is met; a slice's spare places count too). A statement '..UptoSaid' is the law's where the arguments, and the package variables that the reading takes, are together of bulk at most 1048576: NARROWER than '..Said'. Prove '..Said' where nothing that the law and all that it calls make is longer than what came in: it says more and counts as full. Else prove '..UptoSaid'. A law counts once. -/
mutual
def uptoBulk {H : Type} : DataW H → Nat
  | .lit (.string bytes) => bytes.length + 1
  | .lit _ => 1
  | .nil => 1
  | .ptr d => uptoBulk d + 1
  | .slice elems spare => uptoBulkAll elems + uptoBulkAll spare + 1
  | .agg parts => uptoBulkAll parts + 1
  | .iface _ d => uptoBulk d + 1
  | .map entries => uptoBulkEntries entries + 1
  | .held _ => 1
def uptoBulkAll {H : Type} : List (DataW H) → Nat
  | [] => 0
  | d :: r => uptoBulk d + uptoBulkAll r
def uptoBulkEntries {H : Type} : List (Lit × DataW H) → Nat
  | [] => 0
  | x :: r => uptoBulkEntry x + uptoBulkEntries r
def uptoBulkEntry {H : Type} : Lit × DataW H → Nat
  | (.string bytes, d) => bytes.length + uptoBulk d + 1
  | (_, d) => uptoBulk d + 1
 end
def uptoSmall : (H : Type) → List (DataW H) → Bool := fun _ ds => decide (uptoBulkAll ds ≤ 1048576)
def OpenSpec.upto (s : _root_.Go.ChangeSpec) : _root_.Go.OpenSpec := { _root_.Go.OpenSpec.ofChange s with cond := some uptoSmall }

/-- 'laws.FnFitsShape', WHERE WHAT IT READS IS OF BULK AT MOST 1048576: true; the input reads as it did. -/
def fnFitsShapeUptoRow : OpenClaim := { program := "ytiobnaielfeeaaa", sum := "2a5b14b45b8851728e55fd3280198c3fcdf66032e60d94b4add85b83e2a96add", func := "loop.example/resourcestore/laws.FnFitsShape", spec := "fnFitsShape", recurses := true, apart := false, narrowed := true }
def FnFitsShapeUptoSaid : Prop := fnFitsShapeUptoRow.holds Try.pinned (OpenSpec.upto fnFitsShapeSpec)

/-- 'laws.FnCompareNodesKind', WHERE WHAT IT READS IS OF BULK AT MOST 1048576: true; the input reads as it did. -/
def fnCompareNodesKindUptoRow : OpenClaim := { program := "ytiobnaielfeeaaa", sum := "2a5b14b45b8851728e55fd3280198c3fcdf66032e60d94b4add85b83e2a96add", func := "loop.example/resourcestore/laws.FnCompareNodesKind", spec := "fnCompareNodesKind", inPlace := ["internal/bytealg.abigen_runtime_cmpstring"], recurses := true, apart := false, narrowed := true }
def FnCompareNodesKindUptoSaid : Prop := fnCompareNodesKindUptoRow.holds Try.pinned (OpenSpec.upto fnCompareNodesKindSpec)

/-- 'laws.FnCompareNodesThree', WHERE WHAT IT READS IS OF BULK AT MOST 1048576: true; the input reads as it did. -/
def fnCompareNodesThreeUptoRow : OpenClaim := { program := "ytiobnaielfeeaaa", sum := "2a5b14b45b8851728e55fd3280198c3fcdf66032e60d94b4add85b83e2a96add", func := "loop.example/resourcestore/laws.FnCompareNodesThree", spec := "fnCompareNodesThree", inPlace := ["internal/bytealg.abigen_runtime_cmpstring"], recurses := true, apart := false, narrowed := true }
def FnCompareNodesThreeUptoSaid : Prop := fnCompareNodesThreeUptoRow.holds Try.pinned (OpenSpec.upto fnCompareNodesThreeSpec)

/-- 'laws.FnCompareNodes', WHERE WHAT IT READS IS OF BULK AT MOST 1048576: true; the input reads as it did. -/
def fnCompareNodesUptoRow : OpenClaim := { program := "ytiobnaielfeeaaa", sum := "2a5b14b45b8851728e55fd3280198c3fcdf66032e60d94b4add85b83e2a96add", func := "loop.example/resourcestore/laws.FnCompareNodes", spec := "fnCompareNodes", inPlace := ["internal/bytealg.abigen_runtime_cmpstring"], recurses := true, apart := false, narrowed := true }
def FnCompareNodesUptoSaid : Prop := fnCompareNodesUptoRow.holds Try.pinned (OpenSpec.upto fnCompareNodesSpec)

/-- 'laws.FnIsPlain', WHERE WHAT IT READS IS OF BULK AT MOST 1048576: true; the input reads as it did. -/
def fnIsPlainUptoRow : OpenClaim := { program := "ytiobnaielfeeaaa", sum := "2a5b14b45b8851728e55fd3280198c3fcdf66032e60d94b4add85b83e2a96add", func := "loop.example/resourcestore/laws.FnIsPlain", spec := "fnIsPlain", inPlace := ["slices.overlaps[string]", "slices.overlaps[loop.example/resourcestore/impl.Node]"], recurses := true, apart := false, narrowed := true }
def FnIsPlainUptoSaid : Prop := fnIsPlainUptoRow.holds Try.pinned (OpenSpec.upto fnIsPlainSpec)

/-- 'laws.FnKeyCount', WHERE WHAT IT READS IS OF BULK AT MOST 1048576: true; the input reads as it did. -/
def fnKeyCountUptoRow : OpenClaim := { program := "ytiobnaielfeeaaa", sum := "2a5b14b45b8851728e55fd3280198c3fcdf66032e60d94b4add85b83e2a96add", func := "loop.example/resourcestore/laws.FnKeyCount", spec := "fnKeyCount", inPlace := ["internal/bytealg.abigen_runtime_cmpstring"], unfollowed := true, recurses := true, apart := false, narrowed := true }
def FnKeyCountUptoSaid : Prop := fnKeyCountUptoRow.holds Try.pinned (OpenSpec.upto fnKeyCountSpec)

/-- 'laws.FnFindRange', WHERE WHAT IT READS IS OF BULK AT MOST 1048576: true; the input reads as it did. -/
def fnFindRangeUptoRow : OpenClaim := { program := "ytiobnaielfeeaaa", sum := "2a5b14b45b8851728e55fd3280198c3fcdf66032e60d94b4add85b83e2a96add", func := "loop.example/resourcestore/laws.FnFindRange", spec := "fnFindRange", inPlace := ["internal/bytealg.abigen_runtime_cmpstring"], recurses := true, apart := false, narrowed := true }
def FnFindRangeUptoSaid : Prop := fnFindRangeUptoRow.holds Try.pinned (OpenSpec.upto fnFindRangeSpec)

/-- 'laws.FnMergeNode', WHERE WHAT IT READS IS OF BULK AT MOST 1048576: true; the input reads as it did. -/
def fnMergeNodeUptoRow : OpenClaim := { program := "ytiobnaielfeeaaa", sum := "2a5b14b45b8851728e55fd3280198c3fcdf66032e60d94b4add85b83e2a96add", func := "loop.example/resourcestore/laws.FnMergeNode", spec := "fnMergeNode", inPlace := ["slices.overlaps[string]", "slices.overlaps[loop.example/resourcestore/impl.Node]"], recurses := true, apart := false, narrowed := true }
def FnMergeNodeUptoSaid : Prop := fnMergeNodeUptoRow.holds Try.pinned (OpenSpec.upto fnMergeNodeSpec)

/-- 'laws.FnMergeNodeTwice', WHERE WHAT IT READS IS OF BULK AT MOST 1048576: true; the input reads as it did. -/
def fnMergeNodeTwiceUptoRow : OpenClaim := { program := "ytiobnaielfeeaaa", sum := "2a5b14b45b8851728e55fd3280198c3fcdf66032e60d94b4add85b83e2a96add", func := "loop.example/resourcestore/laws.FnMergeNodeTwice", spec := "fnMergeNodeTwice", inPlace := ["slices.overlaps[string]", "slices.overlaps[loop.example/resourcestore/impl.Node]"], recurses := true, apart := false, narrowed := true }
def FnMergeNodeTwiceUptoSaid : Prop := fnMergeNodeTwiceUptoRow.holds Try.pinned (OpenSpec.upto fnMergeNodeTwiceSpec)

/-- 'laws.FnMergeNodeNames', WHERE WHAT IT READS IS OF BULK AT MOST 1048576: true; the input reads as it did. -/
def fnMergeNodeNamesUptoRow : OpenClaim := { program := "ytiobnaielfeeaaa", sum := "2a5b14b45b8851728e55fd3280198c3fcdf66032e60d94b4add85b83e2a96add", func := "loop.example/resourcestore/laws.FnMergeNodeNames", spec := "fnMergeNodeNames", inPlace := ["slices.overlaps[string]", "slices.overlaps[loop.example/resourcestore/impl.Node]"], recurses := true, apart := false, narrowed := true }
def FnMergeNodeNamesUptoSaid : Prop := fnMergeNodeNamesUptoRow.holds Try.pinned (OpenSpec.upto fnMergeNodeNamesSpec)

end Rows
end Go.Proofs.Ytiobnaielfeeaaa
