/-
  NARROWER THAN 'FOR EVERY INPUT', by the rows' own cells (each row's printed sentence says how): FnExactOpToNode: loops · FnExactPutItem: loops · FnExactNodeToOp: loops · FnExactFirstMisfit: loops · FnExactDropItem: loops · FnExactMergeNode: loops · FnExactMergeFor: loops.
  DERIVED. THE GIVEN ROWS OF THIS SEAT. 10 by the template 'for every input the law returns true; each argument reads behind the call as it read before'; 0 by the template 'total and deterministic' (their statements: YtgfnmhfdmmnaoaaTotals.lean).
  GIVEN WITH THE SEED: the statements are not yours to turn. If you find one false, say at which input.
  Laid BY PROGRAM, IN A SANDBOX (cutbox-rows.mjs): the forced cells as the released guide's own fill.sh prints them over the translation 1c2cc1e6603f23c4… (all of the seat's roots in one cut). By AI agents, Wed Nov 11 2026. No macro, syntax, notation, axiom, sorry.
-/
import Derived.Test.YtgfnmhfdmmnaoaaChecked
import GoSem.Claim
import GoSem.ClaimJoined
import GoSem.ClaimMapViews
import Derived.JoinedTies
import Derived.KernelRfl
namespace Go.Proofs.Ytgfnmhfdmmnaoaa
/- THE CELL 'sum', in the pinned program and in every row, IS THE sha256 OF THE DUMP (.gsa) THAT YtgfnmhfdmmnaoaaProg.lean LOADS. Nothing in Lean hashes anything: it is a label: what it is worth is what the hold of that sum in a sandbox is worth. -/
noncomputable def Try.pinned : Pinned := { name := "ytgfnmhfdmmnaoaa", sum := "1c2cc1e6603f23c4fc4e0dcfe740cff43e798353071deb61cfdd8f8e90aa106f", checked := Try.checked }
namespace Rows
def none {H : Type} : Left H := { results := [], args := [] }

/-- 'laws.FnFitsShape': WHATEVER THE INPUT: true; the input reads as it did. -/
def fnFitsShapeSpec : ChangeSpec := { name := "fnFitsShape", fn := fun _ => fun
  | [d] => { results := [.lit (.bool true)], args := [d] }
  | _ => none }
def fnFitsShapeRow : OpenClaim := { program := "ytgfnmhfdmmnaoaa", sum := "1c2cc1e6603f23c4fc4e0dcfe740cff43e798353071deb61cfdd8f8e90aa106f", func := "loop.example/resourcestore/laws.FnFitsShape", spec := "fnFitsShape", recurses := true, apart := false }
def FnFitsShapeSaid : Prop := fnFitsShapeRow.holds Try.pinned (OpenSpec.ofChange fnFitsShapeSpec)

/-- ITS FALSE NEIGHBOUR: 'it returns false'. Refute it at one input. -/
def fnFitsShapeWrong : ChangeSpec := { name := "fnFitsShape", fn := fun _ => fun
  | [d] => { results := [.lit (.bool false)], args := [d] }
  | _ => none }
def FnFitsShapeWrongFalsely : Prop := fnFitsShapeRow.holds Try.pinned (OpenSpec.ofChange fnFitsShapeWrong)

/-- 'laws.FnExactOpToNode': WHATEVER THE INPUT: true; the input reads as it did. -/
def fnExactOpToNodeSpec : ChangeSpec := { name := "fnExactOpToNode", fn := fun _ => fun
  | [d] => { results := [.lit (.bool true)], args := [d] }
  | _ => none }
def fnExactOpToNodeRow : OpenClaim := { program := "ytgfnmhfdmmnaoaa", sum := "1c2cc1e6603f23c4fc4e0dcfe740cff43e798353071deb61cfdd8f8e90aa106f", func := "loop.example/resourcestore/laws.FnExactOpToNode", spec := "fnExactOpToNode", recurses := true, loops := true, apart := false }
def FnExactOpToNodeSaid : Prop := fnExactOpToNodeRow.holds Try.pinned (OpenSpec.ofChange fnExactOpToNodeSpec)

/-- ITS FALSE NEIGHBOUR: 'it returns false'. Refute it at one input. -/
def fnExactOpToNodeWrong : ChangeSpec := { name := "fnExactOpToNode", fn := fun _ => fun
  | [d] => { results := [.lit (.bool false)], args := [d] }
  | _ => none }
def FnExactOpToNodeWrongFalsely : Prop := fnExactOpToNodeRow.holds Try.pinned (OpenSpec.ofChange fnExactOpToNodeWrong)

/-- 'laws.FnExactPutItem': WHATEVER THE INPUT: true; the input reads as it did. -/
def fnExactPutItemSpec : ChangeSpec := { name := "fnExactPutItem", fn := fun _ => fun
  | [d1, d2, d3] => { results := [.lit (.bool true)], args := [d1, d2, d3] }
  | _ => none }
def fnExactPutItemRow : OpenClaim := { program := "ytgfnmhfdmmnaoaa", sum := "1c2cc1e6603f23c4fc4e0dcfe740cff43e798353071deb61cfdd8f8e90aa106f", func := "loop.example/resourcestore/laws.FnExactPutItem", spec := "fnExactPutItem", inPlace := ["internal/bytealg.abigen_runtime_cmpstring", "slices.overlaps[loop.example/resourcestore/impl.Item]"], unfollowed := true, recurses := true, loops := true, apart := false }
def FnExactPutItemSaid : Prop := fnExactPutItemRow.holds Try.pinned (OpenSpec.ofChange fnExactPutItemSpec)

/-- ITS FALSE NEIGHBOUR: 'it returns false'. Refute it at one input. -/
def fnExactPutItemWrong : ChangeSpec := { name := "fnExactPutItem", fn := fun _ => fun
  | [d1, d2, d3] => { results := [.lit (.bool false)], args := [d1, d2, d3] }
  | _ => none }
def FnExactPutItemWrongFalsely : Prop := fnExactPutItemRow.holds Try.pinned (OpenSpec.ofChange fnExactPutItemWrong)

/-- 'laws.FnExactNodeToOp': WHATEVER THE INPUT: true; the input reads as it did. -/
def fnExactNodeToOpSpec : ChangeSpec := { name := "fnExactNodeToOp", fn := fun _ => fun
  | [d] => { results := [.lit (.bool true)], args := [d] }
  | _ => none }
def fnExactNodeToOpRow : OpenClaim := { program := "ytgfnmhfdmmnaoaa", sum := "1c2cc1e6603f23c4fc4e0dcfe740cff43e798353071deb61cfdd8f8e90aa106f", func := "loop.example/resourcestore/laws.FnExactNodeToOp", spec := "fnExactNodeToOp", unfollowed := true, recurses := true, loops := true, apart := false }
def FnExactNodeToOpSaid : Prop := fnExactNodeToOpRow.holds Try.pinned (OpenSpec.ofChange fnExactNodeToOpSpec)

/-- ITS FALSE NEIGHBOUR: 'it returns false'. Refute it at one input. -/
def fnExactNodeToOpWrong : ChangeSpec := { name := "fnExactNodeToOp", fn := fun _ => fun
  | [d] => { results := [.lit (.bool false)], args := [d] }
  | _ => none }
def FnExactNodeToOpWrongFalsely : Prop := fnExactNodeToOpRow.holds Try.pinned (OpenSpec.ofChange fnExactNodeToOpWrong)

/-- 'laws.FnExactFirstMisfit': WHATEVER THE INPUT: true; the input reads as it did. -/
def fnExactFirstMisfitSpec : ChangeSpec := { name := "fnExactFirstMisfit", fn := fun _ => fun
  | [d1, d2] => { results := [.lit (.bool true)], args := [d1, d2] }
  | _ => none }
def fnExactFirstMisfitRow : OpenClaim := { program := "ytgfnmhfdmmnaoaa", sum := "1c2cc1e6603f23c4fc4e0dcfe740cff43e798353071deb61cfdd8f8e90aa106f", func := "loop.example/resourcestore/laws.FnExactFirstMisfit", spec := "fnExactFirstMisfit", recurses := true, loops := true, apart := false }
def FnExactFirstMisfitSaid : Prop := fnExactFirstMisfitRow.holds Try.pinned (OpenSpec.ofChange fnExactFirstMisfitSpec)

/-- ITS FALSE NEIGHBOUR: 'it returns false'. Refute it at one input. -/
def fnExactFirstMisfitWrong : ChangeSpec := { name := "fnExactFirstMisfit", fn := fun _ => fun
  | [d1, d2] => { results := [.lit (.bool false)], args := [d1, d2] }
  | _ => none }
def FnExactFirstMisfitWrongFalsely : Prop := fnExactFirstMisfitRow.holds Try.pinned (OpenSpec.ofChange fnExactFirstMisfitWrong)

/-- 'laws.FnOpToNode': WHATEVER THE INPUT: true; the input reads as it did. -/
def fnOpToNodeSpec : ChangeSpec := { name := "fnOpToNode", fn := fun _ => fun
  | [d] => { results := [.lit (.bool true)], args := [d] }
  | _ => none }
def fnOpToNodeRow : OpenClaim := { program := "ytgfnmhfdmmnaoaa", sum := "1c2cc1e6603f23c4fc4e0dcfe740cff43e798353071deb61cfdd8f8e90aa106f", func := "loop.example/resourcestore/laws.FnOpToNode", spec := "fnOpToNode", unfollowed := true, recurses := true, apart := false }
def FnOpToNodeSaid : Prop := fnOpToNodeRow.holds Try.pinned (OpenSpec.ofChange fnOpToNodeSpec)

/-- ITS FALSE NEIGHBOUR: 'it returns false'. Refute it at one input. -/
def fnOpToNodeWrong : ChangeSpec := { name := "fnOpToNode", fn := fun _ => fun
  | [d] => { results := [.lit (.bool false)], args := [d] }
  | _ => none }
def FnOpToNodeWrongFalsely : Prop := fnOpToNodeRow.holds Try.pinned (OpenSpec.ofChange fnOpToNodeWrong)

/-- 'laws.FnExactDropItem': WHATEVER THE INPUT: true; the input reads as it did. -/
def fnExactDropItemSpec : ChangeSpec := { name := "fnExactDropItem", fn := fun _ => fun
  | [d1, d2] => { results := [.lit (.bool true)], args := [d1, d2] }
  | _ => none }
def fnExactDropItemRow : OpenClaim := { program := "ytgfnmhfdmmnaoaa", sum := "1c2cc1e6603f23c4fc4e0dcfe740cff43e798353071deb61cfdd8f8e90aa106f", func := "loop.example/resourcestore/laws.FnExactDropItem", spec := "fnExactDropItem", inPlace := ["internal/bytealg.abigen_runtime_cmpstring"], unfollowed := true, recurses := true, loops := true, apart := false }
def FnExactDropItemSaid : Prop := fnExactDropItemRow.holds Try.pinned (OpenSpec.ofChange fnExactDropItemSpec)

/-- ITS FALSE NEIGHBOUR: 'it returns false'. Refute it at one input. -/
def fnExactDropItemWrong : ChangeSpec := { name := "fnExactDropItem", fn := fun _ => fun
  | [d1, d2] => { results := [.lit (.bool false)], args := [d1, d2] }
  | _ => none }
def FnExactDropItemWrongFalsely : Prop := fnExactDropItemRow.holds Try.pinned (OpenSpec.ofChange fnExactDropItemWrong)

/-- 'laws.FnExactMergeNode': WHATEVER THE INPUT: true; the input reads as it did. -/
def fnExactMergeNodeSpec : ChangeSpec := { name := "fnExactMergeNode", fn := fun _ => fun
  | [d1, d2] => { results := [.lit (.bool true)], args := [d1, d2] }
  | _ => none }
def fnExactMergeNodeRow : OpenClaim := { program := "ytgfnmhfdmmnaoaa", sum := "1c2cc1e6603f23c4fc4e0dcfe740cff43e798353071deb61cfdd8f8e90aa106f", func := "loop.example/resourcestore/laws.FnExactMergeNode", spec := "fnExactMergeNode", inPlace := ["slices.overlaps[string]", "slices.overlaps[loop.example/resourcestore/impl.Node]"], recurses := true, loops := true, apart := false }
def FnExactMergeNodeSaid : Prop := fnExactMergeNodeRow.holds Try.pinned (OpenSpec.ofChange fnExactMergeNodeSpec)

/-- ITS FALSE NEIGHBOUR: 'it returns false'. Refute it at one input. -/
def fnExactMergeNodeWrong : ChangeSpec := { name := "fnExactMergeNode", fn := fun _ => fun
  | [d1, d2] => { results := [.lit (.bool false)], args := [d1, d2] }
  | _ => none }
def FnExactMergeNodeWrongFalsely : Prop := fnExactMergeNodeRow.holds Try.pinned (OpenSpec.ofChange fnExactMergeNodeWrong)

/-- 'laws.FnNodeToOp': WHATEVER THE INPUT: true; the input reads as it did. -/
def fnNodeToOpSpec : ChangeSpec := { name := "fnNodeToOp", fn := fun _ => fun
  | [d] => { results := [.lit (.bool true)], args := [d] }
  | _ => none }
def fnNodeToOpRow : OpenClaim := { program := "ytgfnmhfdmmnaoaa", sum := "1c2cc1e6603f23c4fc4e0dcfe740cff43e798353071deb61cfdd8f8e90aa106f", func := "loop.example/resourcestore/laws.FnNodeToOp", spec := "fnNodeToOp", unfollowed := true, recurses := true, apart := false }
def FnNodeToOpSaid : Prop := fnNodeToOpRow.holds Try.pinned (OpenSpec.ofChange fnNodeToOpSpec)

/-- ITS FALSE NEIGHBOUR: 'it returns false'. Refute it at one input. -/
def fnNodeToOpWrong : ChangeSpec := { name := "fnNodeToOp", fn := fun _ => fun
  | [d] => { results := [.lit (.bool false)], args := [d] }
  | _ => none }
def FnNodeToOpWrongFalsely : Prop := fnNodeToOpRow.holds Try.pinned (OpenSpec.ofChange fnNodeToOpWrong)

/-- 'laws.FnExactMergeFor': WHATEVER THE INPUT: true; the input reads as it did. -/
def fnExactMergeForSpec : ChangeSpec := { name := "fnExactMergeFor", fn := fun _ => fun
  | [d1, d2] => { results := [.lit (.bool true)], args := [d1, d2] }
  | _ => none }
def fnExactMergeForRow : OpenClaim := { program := "ytgfnmhfdmmnaoaa", sum := "1c2cc1e6603f23c4fc4e0dcfe740cff43e798353071deb61cfdd8f8e90aa106f", func := "loop.example/resourcestore/laws.FnExactMergeFor", spec := "fnExactMergeFor", inPlace := ["slices.overlaps[string]", "slices.overlaps[loop.example/resourcestore/impl.Node]", "internal/bytealg.abigen_runtime_cmpstring"], recurses := true, loops := true, apart := false }
def FnExactMergeForSaid : Prop := fnExactMergeForRow.holds Try.pinned (OpenSpec.ofChange fnExactMergeForSpec)

/-- ITS FALSE NEIGHBOUR: 'it returns false'. Refute it at one input. -/
def fnExactMergeForWrong : ChangeSpec := { name := "fnExactMergeFor", fn := fun _ => fun
  | [d1, d2] => { results := [.lit (.bool false)], args := [d1, d2] }
  | _ => none }
def FnExactMergeForWrongFalsely : Prop := fnExactMergeForRow.holds Try.pinned (OpenSpec.ofChange fnExactMergeForWrong)

/- THE SECOND FORM. 'bulk': how many values and letters a reading holds, each counted each time it is reached (what is shared counts as often as it is met; a slice's spare places count too). A statement '..UptoSaid' is the law's where the arguments, and the package variables that the reading takes, are together of bulk at most 1048576: NARROWER than '..Said'. Prove '..Said' where nothing that the law and all that it calls make is longer than what came in: it says more and counts as full. Else prove '..UptoSaid'. A law counts once. -/
mutual
def uptoBulk {H : Type} : DataW H → Nat
  | .lit (.string bytes) => bytes.length + 1
  | .lit _ => 1
  | .nil => 1
  | .ptr d => uptoBulk d + 1
  | .slice elems spare => uptoBulkAll elems + uptoBulkAll spare + 1
  | .agg parts => uptoBulkAll parts + 1
  | .iface _ d => uptoBulk d + 1
  | .map entries => uptoBulkEntries entries + 1
  | .held _ => 1
def uptoBulkAll {H : Type} : List (DataW H) → Nat
  | [] => 0
  | d :: r => uptoBulk d + uptoBulkAll r
def uptoBulkEntries {H : Type} : List (Lit × DataW H) → Nat
  | [] => 0
  | x :: r => uptoBulkEntry x + uptoBulkEntries r
def uptoBulkEntry {H : Type} : Lit × DataW H → Nat
  | (.string bytes, d) => bytes.length + uptoBulk d + 1
  | (_, d) => uptoBulk d + 1
 end
def uptoSmall : (H : Type) → List (DataW H) → Bool := fun _ ds => decide (uptoBulkAll ds ≤ 1048576)
def OpenSpec.upto (s : _root_.Go.ChangeSpec) : _root_.Go.OpenSpec := { _root_.Go.OpenSpec.ofChange s with cond := some uptoSmall }

/-- 'laws.FnFitsShape', WHERE WHAT IT READS IS OF BULK AT MOST 1048576: true; the input reads as it did. -/
def fnFitsShapeUptoRow : OpenClaim := { program := "ytgfnmhfdmmnaoaa", sum := "1c2cc1e6603f23c4fc4e0dcfe740cff43e798353071deb61cfdd8f8e90aa106f", func := "loop.example/resourcestore/laws.FnFitsShape", spec := "fnFitsShape", recurses := true, apart := false, narrowed := true }
def FnFitsShapeUptoSaid : Prop := fnFitsShapeUptoRow.holds Try.pinned (OpenSpec.upto fnFitsShapeSpec)

/-- 'laws.FnExactOpToNode', WHERE WHAT IT READS IS OF BULK AT MOST 1048576: true; the input reads as it did. -/
def fnExactOpToNodeUptoRow : OpenClaim := { program := "ytgfnmhfdmmnaoaa", sum := "1c2cc1e6603f23c4fc4e0dcfe740cff43e798353071deb61cfdd8f8e90aa106f", func := "loop.example/resourcestore/laws.FnExactOpToNode", spec := "fnExactOpToNode", recurses := true, loops := true, apart := false, narrowed := true }
def FnExactOpToNodeUptoSaid : Prop := fnExactOpToNodeUptoRow.holds Try.pinned (OpenSpec.upto fnExactOpToNodeSpec)

/-- 'laws.FnExactPutItem', WHERE WHAT IT READS IS OF BULK AT MOST 1048576: true; the input reads as it did. -/
def fnExactPutItemUptoRow : OpenClaim := { program := "ytgfnmhfdmmnaoaa", sum := "1c2cc1e6603f23c4fc4e0dcfe740cff43e798353071deb61cfdd8f8e90aa106f", func := "loop.example/resourcestore/laws.FnExactPutItem", spec := "fnExactPutItem", inPlace := ["internal/bytealg.abigen_runtime_cmpstring", "slices.overlaps[loop.example/resourcestore/impl.Item]"], unfollowed := true, recurses := true, loops := true, apart := false, narrowed := true }
def FnExactPutItemUptoSaid : Prop := fnExactPutItemUptoRow.holds Try.pinned (OpenSpec.upto fnExactPutItemSpec)

/-- 'laws.FnExactNodeToOp', WHERE WHAT IT READS IS OF BULK AT MOST 1048576: true; the input reads as it did. -/
def fnExactNodeToOpUptoRow : OpenClaim := { program := "ytgfnmhfdmmnaoaa", sum := "1c2cc1e6603f23c4fc4e0dcfe740cff43e798353071deb61cfdd8f8e90aa106f", func := "loop.example/resourcestore/laws.FnExactNodeToOp", spec := "fnExactNodeToOp", unfollowed := true, recurses := true, loops := true, apart := false, narrowed := true }
def FnExactNodeToOpUptoSaid : Prop := fnExactNodeToOpUptoRow.holds Try.pinned (OpenSpec.upto fnExactNodeToOpSpec)

/-- 'laws.FnExactFirstMisfit', WHERE WHAT IT READS IS OF BULK AT MOST 1048576: true; the input reads as it did. -/
def fnExactFirstMisfitUptoRow : OpenClaim := { program := "ytgfnmhfdmmnaoaa", sum := "1c2cc1e6603f23c4fc4e0dcfe740cff43e798353071deb61cfdd8f8e90aa106f", func := "loop.example/resourcestore/laws.FnExactFirstMisfit", spec := "fnExactFirstMisfit", recurses := true, loops := true, apart := false, narrowed := true }
def FnExactFirstMisfitUptoSaid : Prop := fnExactFirstMisfitUptoRow.holds Try.pinned (OpenSpec.upto fnExactFirstMisfitSpec)

/-- 'laws.FnOpToNode', WHERE WHAT IT READS IS OF BULK AT MOST 1048576: true; the input reads as it did. -/
def fnOpToNodeUptoRow : OpenClaim := { program := "ytgfnmhfdmmnaoaa", sum := "1c2cc1e6603f23c4fc4e0dcfe740cff43e798353071deb61cfdd8f8e90aa106f", func := "loop.example/resourcestore/laws.FnOpToNode", spec := "fnOpToNode", unfollowed := true, recurses := true, apart := false, narrowed := true }
def FnOpToNodeUptoSaid : Prop := fnOpToNodeUptoRow.holds Try.pinned (OpenSpec.upto fnOpToNodeSpec)

/-- 'laws.FnExactDropItem', WHERE WHAT IT READS IS OF BULK AT MOST 1048576: true; the input reads as it did. -/
def fnExactDropItemUptoRow : OpenClaim := { program := "ytgfnmhfdmmnaoaa", sum := "1c2cc1e6603f23c4fc4e0dcfe740cff43e798353071deb61cfdd8f8e90aa106f", func := "loop.example/resourcestore/laws.FnExactDropItem", spec := "fnExactDropItem", inPlace := ["internal/bytealg.abigen_runtime_cmpstring"], unfollowed := true, recurses := true, loops := true, apart := false, narrowed := true }
def FnExactDropItemUptoSaid : Prop := fnExactDropItemUptoRow.holds Try.pinned (OpenSpec.upto fnExactDropItemSpec)

/-- 'laws.FnExactMergeNode', WHERE WHAT IT READS IS OF BULK AT MOST 1048576: true; the input reads as it did. -/
def fnExactMergeNodeUptoRow : OpenClaim := { program := "ytgfnmhfdmmnaoaa", sum := "1c2cc1e6603f23c4fc4e0dcfe740cff43e798353071deb61cfdd8f8e90aa106f", func := "loop.example/resourcestore/laws.FnExactMergeNode", spec := "fnExactMergeNode", inPlace := ["slices.overlaps[string]", "slices.overlaps[loop.example/resourcestore/impl.Node]"], recurses := true, loops := true, apart := false, narrowed := true }
def FnExactMergeNodeUptoSaid : Prop := fnExactMergeNodeUptoRow.holds Try.pinned (OpenSpec.upto fnExactMergeNodeSpec)

/-- 'laws.FnNodeToOp', WHERE WHAT IT READS IS OF BULK AT MOST 1048576: true; the input reads as it did. -/
def fnNodeToOpUptoRow : OpenClaim := { program := "ytgfnmhfdmmnaoaa", sum := "1c2cc1e6603f23c4fc4e0dcfe740cff43e798353071deb61cfdd8f8e90aa106f", func := "loop.example/resourcestore/laws.FnNodeToOp", spec := "fnNodeToOp", unfollowed := true, recurses := true, apart := false, narrowed := true }
def FnNodeToOpUptoSaid : Prop := fnNodeToOpUptoRow.holds Try.pinned (OpenSpec.upto fnNodeToOpSpec)

/-- 'laws.FnExactMergeFor', WHERE WHAT IT READS IS OF BULK AT MOST 1048576: true; the input reads as it did. -/
def fnExactMergeForUptoRow : OpenClaim := { program := "ytgfnmhfdmmnaoaa", sum := "1c2cc1e6603f23c4fc4e0dcfe740cff43e798353071deb61cfdd8f8e90aa106f", func := "loop.example/resourcestore/laws.FnExactMergeFor", spec := "fnExactMergeFor", inPlace := ["slices.overlaps[string]", "slices.overlaps[loop.example/resourcestore/impl.Node]", "internal/bytealg.abigen_runtime_cmpstring"], recurses := true, loops := true, apart := false, narrowed := true }
def FnExactMergeForUptoSaid : Prop := fnExactMergeForUptoRow.holds Try.pinned (OpenSpec.upto fnExactMergeForSpec)

end Rows
end Go.Proofs.Ytgfnmhfdmmnaoaa
