/-
  NARROWER THAN 'FOR EVERY INPUT', by the rows' own cells (each row's printed sentence says how): FnExactPageOf: loops · FnExactFitsShape: loops · FnExactIsSafe: loops · FnExactFindRange: loops · FnExactOpToNode: loops.
  DERIVED. THE GIVEN ROWS OF THIS SEAT. 7 by the template 'for every input the law returns true; each argument reads behind the call as it read before'; 0 by the template 'total and deterministic' (their statements: YtchiakeceiefdaaTotals.lean).
  GIVEN WITH THE SEED: the statements are not yours to turn. If you find one false, say at which input.
  Laid BY PROGRAM, IN A SANDBOX (cutbox-rows.mjs): the forced cells as the released guide's own fill.sh prints them over the translation 3092b9cf1c2d6fb7… (all of the seat's roots in one cut). By AI agents, Wed Nov 11 2026. No macro, syntax, notation, axiom, sorry.
-/
import Derived.Test.YtchiakeceiefdaaChecked
import GoSem.Claim
import GoSem.ClaimJoined
import GoSem.ClaimMapViews
import Derived.JoinedTies
import Derived.KernelRfl
namespace Go.Proofs.Ytchiakeceiefdaa
/- THE CELL 'sum', in the pinned program and in every row, IS THE sha256 OF THE DUMP (.gsa) THAT YtchiakeceiefdaaProg.lean LOADS. Nothing in Lean hashes anything: it is a label: what it is worth is what the hold of that sum in a sandbox is worth. -/
noncomputable def Try.pinned : Pinned := { name := "ytchiakeceiefdaa", sum := "3092b9cf1c2d6fb7c3c07c8ce2cadbdde2324dd4b022c0cdb499a7644aca9a68", checked := Try.checked }
namespace Rows
def none {H : Type} : Left H := { results := [], args := [] }

/-- 'laws.FnFitsShape': WHATEVER THE INPUT: true; the input reads as it did. -/
def fnFitsShapeSpec : ChangeSpec := { name := "fnFitsShape", fn := fun _ => fun
  | [d] => { results := [.lit (.bool true)], args := [d] }
  | _ => none }
def fnFitsShapeRow : OpenClaim := { program := "ytchiakeceiefdaa", sum := "3092b9cf1c2d6fb7c3c07c8ce2cadbdde2324dd4b022c0cdb499a7644aca9a68", func := "loop.example/resourcestore/laws.FnFitsShape", spec := "fnFitsShape", recurses := true, apart := false }
def FnFitsShapeSaid : Prop := fnFitsShapeRow.holds Try.pinned (OpenSpec.ofChange fnFitsShapeSpec)

/-- ITS FALSE NEIGHBOUR: 'it returns false'. Refute it at one input. -/
def fnFitsShapeWrong : ChangeSpec := { name := "fnFitsShape", fn := fun _ => fun
  | [d] => { results := [.lit (.bool false)], args := [d] }
  | _ => none }
def FnFitsShapeWrongFalsely : Prop := fnFitsShapeRow.holds Try.pinned (OpenSpec.ofChange fnFitsShapeWrong)

/-- 'laws.FnExactPageOf': WHATEVER THE INPUT: true; the input reads as it did. -/
def fnExactPageOfSpec : ChangeSpec := { name := "fnExactPageOf", fn := fun _ => fun
  | [d1, d2, d3] => { results := [.lit (.bool true)], args := [d1, d2, d3] }
  | _ => none }
def fnExactPageOfRow : OpenClaim := { program := "ytchiakeceiefdaa", sum := "3092b9cf1c2d6fb7c3c07c8ce2cadbdde2324dd4b022c0cdb499a7644aca9a68", func := "loop.example/resourcestore/laws.FnExactPageOf", spec := "fnExactPageOf", recurses := true, loops := true, apart := false }
def FnExactPageOfSaid : Prop := fnExactPageOfRow.holds Try.pinned (OpenSpec.ofChange fnExactPageOfSpec)

/-- ITS FALSE NEIGHBOUR: 'it returns false'. Refute it at one input. -/
def fnExactPageOfWrong : ChangeSpec := { name := "fnExactPageOf", fn := fun _ => fun
  | [d1, d2, d3] => { results := [.lit (.bool false)], args := [d1, d2, d3] }
  | _ => none }
def FnExactPageOfWrongFalsely : Prop := fnExactPageOfRow.holds Try.pinned (OpenSpec.ofChange fnExactPageOfWrong)

/-- 'laws.FnExactFitsShape': WHATEVER THE INPUT: true; the input reads as it did. -/
def fnExactFitsShapeSpec : ChangeSpec := { name := "fnExactFitsShape", fn := fun _ => fun
  | [d1, d2] => { results := [.lit (.bool true)], args := [d1, d2] }
  | _ => none }
def fnExactFitsShapeRow : OpenClaim := { program := "ytchiakeceiefdaa", sum := "3092b9cf1c2d6fb7c3c07c8ce2cadbdde2324dd4b022c0cdb499a7644aca9a68", func := "loop.example/resourcestore/laws.FnExactFitsShape", spec := "fnExactFitsShape", recurses := true, loops := true, apart := false }
def FnExactFitsShapeSaid : Prop := fnExactFitsShapeRow.holds Try.pinned (OpenSpec.ofChange fnExactFitsShapeSpec)

/-- ITS FALSE NEIGHBOUR: 'it returns false'. Refute it at one input. -/
def fnExactFitsShapeWrong : ChangeSpec := { name := "fnExactFitsShape", fn := fun _ => fun
  | [d1, d2] => { results := [.lit (.bool false)], args := [d1, d2] }
  | _ => none }
def FnExactFitsShapeWrongFalsely : Prop := fnExactFitsShapeRow.holds Try.pinned (OpenSpec.ofChange fnExactFitsShapeWrong)

/-- 'laws.FnExactIsSafe': WHATEVER THE INPUT: true; the input reads as it did. -/
def fnExactIsSafeSpec : ChangeSpec := { name := "fnExactIsSafe", fn := fun _ => fun
  | [d] => { results := [.lit (.bool true)], args := [d] }
  | _ => none }
def fnExactIsSafeRow : OpenClaim := { program := "ytchiakeceiefdaa", sum := "3092b9cf1c2d6fb7c3c07c8ce2cadbdde2324dd4b022c0cdb499a7644aca9a68", func := "loop.example/resourcestore/laws.FnExactIsSafe", spec := "fnExactIsSafe", inPlace := ["internal/bytealg.IndexByteString"], recurses := true, loops := true, apart := false }
def FnExactIsSafeSaid : Prop := fnExactIsSafeRow.holds Try.pinned (OpenSpec.ofChange fnExactIsSafeSpec)

/-- ITS FALSE NEIGHBOUR: 'it returns false'. Refute it at one input. -/
def fnExactIsSafeWrong : ChangeSpec := { name := "fnExactIsSafe", fn := fun _ => fun
  | [d] => { results := [.lit (.bool false)], args := [d] }
  | _ => none }
def FnExactIsSafeWrongFalsely : Prop := fnExactIsSafeRow.holds Try.pinned (OpenSpec.ofChange fnExactIsSafeWrong)

/-- 'laws.FnExactFindRange': WHATEVER THE INPUT: true; the input reads as it did. -/
def fnExactFindRangeSpec : ChangeSpec := { name := "fnExactFindRange", fn := fun _ => fun
  | [d1, d2, d3] => { results := [.lit (.bool true)], args := [d1, d2, d3] }
  | _ => none }
def fnExactFindRangeRow : OpenClaim := { program := "ytchiakeceiefdaa", sum := "3092b9cf1c2d6fb7c3c07c8ce2cadbdde2324dd4b022c0cdb499a7644aca9a68", func := "loop.example/resourcestore/laws.FnExactFindRange", spec := "fnExactFindRange", inPlace := ["internal/bytealg.abigen_runtime_cmpstring"], recurses := true, loops := true, apart := false }
def FnExactFindRangeSaid : Prop := fnExactFindRangeRow.holds Try.pinned (OpenSpec.ofChange fnExactFindRangeSpec)

/-- ITS FALSE NEIGHBOUR: 'it returns false'. Refute it at one input. -/
def fnExactFindRangeWrong : ChangeSpec := { name := "fnExactFindRange", fn := fun _ => fun
  | [d1, d2, d3] => { results := [.lit (.bool false)], args := [d1, d2, d3] }
  | _ => none }
def FnExactFindRangeWrongFalsely : Prop := fnExactFindRangeRow.holds Try.pinned (OpenSpec.ofChange fnExactFindRangeWrong)

/-- 'laws.FnExactOpToNode': WHATEVER THE INPUT: true; the input reads as it did. -/
def fnExactOpToNodeSpec : ChangeSpec := { name := "fnExactOpToNode", fn := fun _ => fun
  | [d] => { results := [.lit (.bool true)], args := [d] }
  | _ => none }
def fnExactOpToNodeRow : OpenClaim := { program := "ytchiakeceiefdaa", sum := "3092b9cf1c2d6fb7c3c07c8ce2cadbdde2324dd4b022c0cdb499a7644aca9a68", func := "loop.example/resourcestore/laws.FnExactOpToNode", spec := "fnExactOpToNode", recurses := true, loops := true, apart := false }
def FnExactOpToNodeSaid : Prop := fnExactOpToNodeRow.holds Try.pinned (OpenSpec.ofChange fnExactOpToNodeSpec)

/-- ITS FALSE NEIGHBOUR: 'it returns false'. Refute it at one input. -/
def fnExactOpToNodeWrong : ChangeSpec := { name := "fnExactOpToNode", fn := fun _ => fun
  | [d] => { results := [.lit (.bool false)], args := [d] }
  | _ => none }
def FnExactOpToNodeWrongFalsely : Prop := fnExactOpToNodeRow.holds Try.pinned (OpenSpec.ofChange fnExactOpToNodeWrong)

/-- 'laws.FnCompareNodesKind': WHATEVER THE INPUT: true; the input reads as it did. -/
def fnCompareNodesKindSpec : ChangeSpec := { name := "fnCompareNodesKind", fn := fun _ => fun
  | [d] => { results := [.lit (.bool true)], args := [d] }
  | _ => none }
def fnCompareNodesKindRow : OpenClaim := { program := "ytchiakeceiefdaa", sum := "3092b9cf1c2d6fb7c3c07c8ce2cadbdde2324dd4b022c0cdb499a7644aca9a68", func := "loop.example/resourcestore/laws.FnCompareNodesKind", spec := "fnCompareNodesKind", inPlace := ["internal/bytealg.abigen_runtime_cmpstring"], recurses := true, apart := false }
def FnCompareNodesKindSaid : Prop := fnCompareNodesKindRow.holds Try.pinned (OpenSpec.ofChange fnCompareNodesKindSpec)

/-- ITS FALSE NEIGHBOUR: 'it returns false'. Refute it at one input. -/
def fnCompareNodesKindWrong : ChangeSpec := { name := "fnCompareNodesKind", fn := fun _ => fun
  | [d] => { results := [.lit (.bool false)], args := [d] }
  | _ => none }
def FnCompareNodesKindWrongFalsely : Prop := fnCompareNodesKindRow.holds Try.pinned (OpenSpec.ofChange fnCompareNodesKindWrong)

/- THE SECOND FORM. 'bulk': how many values and letters a reading holds, each counted each time it is reached (what is shared counts as often as it is met; a slice's spare places count too). A statement '..UptoSaid' is the law's where the arguments, and the package variables that the reading takes, are together of bulk at most 1048576: NARROWER than '..Said'. Prove '..Said' where nothing that the law and all that it calls make is longer than what came in: it says more and counts as full. Else prove '..UptoSaid'. A law counts once. -/
mutual
def uptoBulk {H : Type} : DataW H → Nat
  | .lit (.string bytes) => bytes.length + 1
  | .lit _ => 1
  | .nil => 1
  | .ptr d => uptoBulk d + 1
  | .slice elems spare => uptoBulkAll elems + uptoBulkAll spare + 1
  | .agg parts => uptoBulkAll parts + 1
  | .iface _ d => uptoBulk d + 1
  | .map entries => uptoBulkEntries entries + 1
  | .held _ => 1
def uptoBulkAll {H : Type} : List (DataW H) → Nat
  | [] => 0
  | d :: r => uptoBulk d + uptoBulkAll r
def uptoBulkEntries {H : Type} : List (Lit × DataW H) → Nat
  | [] => 0
  | x :: r => uptoBulkEntry x + uptoBulkEntries r
def uptoBulkEntry {H : Type} : Lit × DataW H → Nat
  | (.string bytes, d) => bytes.length + uptoBulk d + 1
  | (_, d) => uptoBulk d + 1
 end
def uptoSmall : (H : Type) → List (DataW H) → Bool := fun _ ds => decide (uptoBulkAll ds ≤ 1048576)
def OpenSpec.upto (s : _root_.Go.ChangeSpec) : _root_.Go.OpenSpec := { _root_.Go.OpenSpec.ofChange s with cond := some uptoSmall }

/-- 'laws.FnFitsShape', WHERE WHAT IT READS IS OF BULK AT MOST 1048576: true; the input reads as it did. -/
def fnFitsShapeUptoRow : OpenClaim := { program := "ytchiakeceiefdaa", sum := "3092b9cf1c2d6fb7c3c07c8ce2cadbdde2324dd4b022c0cdb499a7644aca9a68", func := "loop.example/resourcestore/laws.FnFitsShape", spec := "fnFitsShape", recurses := true, apart := false, narrowed := true }
def FnFitsShapeUptoSaid : Prop := fnFitsShapeUptoRow.holds Try.pinned (OpenSpec.upto fnFitsShapeSpec)

/-- 'laws.FnExactPageOf', WHERE WHAT IT READS IS OF BULK AT MOST 1048576: true; the input reads as it did. -/
def fnExactPageOfUptoRow : OpenClaim := { program := "ytchiakeceiefdaa", sum := "3092b9cf1c2d6fb7c3c07c8ce2cadbdde2324dd4b022c0cdb499a7644aca9a68", func := "loop.example/resourcestore/laws.FnExactPageOf", spec := "fnExactPageOf", recurses := true, loops := true, apart := false, narrowed := true }
def FnExactPageOfUptoSaid : Prop := fnExactPageOfUptoRow.holds Try.pinned (OpenSpec.upto fnExactPageOfSpec)

/-- 'laws.FnExactFitsShape', WHERE WHAT IT READS IS OF BULK AT MOST 1048576: true; the input reads as it did. -/
def fnExactFitsShapeUptoRow : OpenClaim := { program := "ytchiakeceiefdaa", sum := "3092b9cf1c2d6fb7c3c07c8ce2cadbdde2324dd4b022c0cdb499a7644aca9a68", func := "loop.example/resourcestore/laws.FnExactFitsShape", spec := "fnExactFitsShape", recurses := true, loops := true, apart := false, narrowed := true }
def FnExactFitsShapeUptoSaid : Prop := fnExactFitsShapeUptoRow.holds Try.pinned (OpenSpec.upto fnExactFitsShapeSpec)

/-- 'laws.FnExactIsSafe', WHERE WHAT IT READS IS OF BULK AT MOST 1048576: true; the input reads as it did. -/
def fnExactIsSafeUptoRow : OpenClaim := { program := "ytchiakeceiefdaa", sum := "3092b9cf1c2d6fb7c3c07c8ce2cadbdde2324dd4b022c0cdb499a7644aca9a68", func := "loop.example/resourcestore/laws.FnExactIsSafe", spec := "fnExactIsSafe", inPlace := ["internal/bytealg.IndexByteString"], recurses := true, loops := true, apart := false, narrowed := true }
def FnExactIsSafeUptoSaid : Prop := fnExactIsSafeUptoRow.holds Try.pinned (OpenSpec.upto fnExactIsSafeSpec)

/-- 'laws.FnExactFindRange', WHERE WHAT IT READS IS OF BULK AT MOST 1048576: true; the input reads as it did. -/
def fnExactFindRangeUptoRow : OpenClaim := { program := "ytchiakeceiefdaa", sum := "3092b9cf1c2d6fb7c3c07c8ce2cadbdde2324dd4b022c0cdb499a7644aca9a68", func := "loop.example/resourcestore/laws.FnExactFindRange", spec := "fnExactFindRange", inPlace := ["internal/bytealg.abigen_runtime_cmpstring"], recurses := true, loops := true, apart := false, narrowed := true }
def FnExactFindRangeUptoSaid : Prop := fnExactFindRangeUptoRow.holds Try.pinned (OpenSpec.upto fnExactFindRangeSpec)

/-- 'laws.FnExactOpToNode', WHERE WHAT IT READS IS OF BULK AT MOST 1048576: true; the input reads as it did. -/
def fnExactOpToNodeUptoRow : OpenClaim := { program := "ytchiakeceiefdaa", sum := "3092b9cf1c2d6fb7c3c07c8ce2cadbdde2324dd4b022c0cdb499a7644aca9a68", func := "loop.example/resourcestore/laws.FnExactOpToNode", spec := "fnExactOpToNode", recurses := true, loops := true, apart := false, narrowed := true }
def FnExactOpToNodeUptoSaid : Prop := fnExactOpToNodeUptoRow.holds Try.pinned (OpenSpec.upto fnExactOpToNodeSpec)

/-- 'laws.FnCompareNodesKind', WHERE WHAT IT READS IS OF BULK AT MOST 1048576: true; the input reads as it did. -/
def fnCompareNodesKindUptoRow : OpenClaim := { program := "ytchiakeceiefdaa", sum := "3092b9cf1c2d6fb7c3c07c8ce2cadbdde2324dd4b022c0cdb499a7644aca9a68", func := "loop.example/resourcestore/laws.FnCompareNodesKind", spec := "fnCompareNodesKind", inPlace := ["internal/bytealg.abigen_runtime_cmpstring"], recurses := true, apart := false, narrowed := true }
def FnCompareNodesKindUptoSaid : Prop := fnCompareNodesKindUptoRow.holds Try.pinned (OpenSpec.upto fnCompareNodesKindSpec)

end Rows
end Go.Proofs.Ytchiakeceiefdaa
