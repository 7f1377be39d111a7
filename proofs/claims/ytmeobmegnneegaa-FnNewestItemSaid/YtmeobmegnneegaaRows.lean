/-
  NARROWER THAN 'FOR EVERY INPUT', by the rows' own cells (each row's printed sentence says how): FnExactPutItem: loops · FnExactAllPages: loops · FnExactGetItem: loops · FnExactDropItem: loops.
  DERIVED. THE GIVEN ROWS OF THIS SEAT. 19 by the template 'for every input the law returns true; each argument reads behind the call as it read before'; 0 by the template 'total and deterministic' (their statements: YtmeobmegnneegaaTotals.lean).
  GIVEN WITH THE SEED: the statements are not yours to turn. If you find one false, say at which input.
  Laid BY PROGRAM, IN A SANDBOX (cutbox-rows.mjs): the forced cells as the released guide's own fill.sh prints them over the translation 75a24e771b53c486… (all of the seat's roots in one cut). By AI agents, Wed Nov 11 2026. No macro, syntax, notation, axiom, sorry.
-/
import Derived.Test.YtmeobmegnneegaaChecked
import GoSem.Claim
import GoSem.ClaimJoined
import GoSem.ClaimMapViews
import Derived.JoinedTies
import Derived.KernelRfl
namespace Go.Proofs.Ytmeobmegnneegaa
/- THE CELL 'sum', in the pinned program and in every row, IS THE sha256 OF THE DUMP (.gsa) THAT YtmeobmegnneegaaProg.lean LOADS. Nothing in Lean hashes anything: it is a label: what it is worth is what the hold of that sum in a sandbox is worth. -/
noncomputable def Try.pinned : Pinned := { name := "ytmeobmegnneegaa", sum := "75a24e771b53c486dba2c29a82efd4c55f26fbe338debc7b755667d96c325981", checked := Try.checked }
namespace Rows
def none {H : Type} : Left H := { results := [], args := [] }

/-- 'laws.FnExactPutItem': WHATEVER THE INPUT: true; the input reads as it did. -/
def fnExactPutItemSpec : ChangeSpec := { name := "fnExactPutItem", fn := fun _ => fun
  | [d1, d2, d3] => { results := [.lit (.bool true)], args := [d1, d2, d3] }
  | _ => none }
def fnExactPutItemRow : OpenClaim := { program := "ytmeobmegnneegaa", sum := "75a24e771b53c486dba2c29a82efd4c55f26fbe338debc7b755667d96c325981", func := "loop.example/resourcestore/laws.FnExactPutItem", spec := "fnExactPutItem", inPlace := ["internal/bytealg.abigen_runtime_cmpstring", "slices.overlaps[loop.example/resourcestore/impl.Item]"], unfollowed := true, recurses := true, loops := true, apart := false }
def FnExactPutItemSaid : Prop := fnExactPutItemRow.holds Try.pinned (OpenSpec.ofChange fnExactPutItemSpec)

/-- ITS FALSE NEIGHBOUR: 'it returns false'. Refute it at one input. -/
def fnExactPutItemWrong : ChangeSpec := { name := "fnExactPutItem", fn := fun _ => fun
  | [d1, d2, d3] => { results := [.lit (.bool false)], args := [d1, d2, d3] }
  | _ => none }
def FnExactPutItemWrongFalsely : Prop := fnExactPutItemRow.holds Try.pinned (OpenSpec.ofChange fnExactPutItemWrong)

/-- 'laws.FnPageOf': WHATEVER THE INPUT: true; the input reads as it did. -/
def fnPageOfSpec : ChangeSpec := { name := "fnPageOf", fn := fun _ => fun
  | [d] => { results := [.lit (.bool true)], args := [d] }
  | _ => none }
def fnPageOfRow : OpenClaim := { program := "ytmeobmegnneegaa", sum := "75a24e771b53c486dba2c29a82efd4c55f26fbe338debc7b755667d96c325981", func := "loop.example/resourcestore/laws.FnPageOf", spec := "fnPageOf", recurses := true, apart := false }
def FnPageOfSaid : Prop := fnPageOfRow.holds Try.pinned (OpenSpec.ofChange fnPageOfSpec)

/-- ITS FALSE NEIGHBOUR: 'it returns false'. Refute it at one input. -/
def fnPageOfWrong : ChangeSpec := { name := "fnPageOf", fn := fun _ => fun
  | [d] => { results := [.lit (.bool false)], args := [d] }
  | _ => none }
def FnPageOfWrongFalsely : Prop := fnPageOfRow.holds Try.pinned (OpenSpec.ofChange fnPageOfWrong)

/-- 'laws.FnPageOfNext': WHATEVER THE INPUT: true; the input reads as it did. -/
def fnPageOfNextSpec : ChangeSpec := { name := "fnPageOfNext", fn := fun _ => fun
  | [d] => { results := [.lit (.bool true)], args := [d] }
  | _ => none }
def fnPageOfNextRow : OpenClaim := { program := "ytmeobmegnneegaa", sum := "75a24e771b53c486dba2c29a82efd4c55f26fbe338debc7b755667d96c325981", func := "loop.example/resourcestore/laws.FnPageOfNext", spec := "fnPageOfNext", recurses := true, apart := false }
def FnPageOfNextSaid : Prop := fnPageOfNextRow.holds Try.pinned (OpenSpec.ofChange fnPageOfNextSpec)

/-- ITS FALSE NEIGHBOUR: 'it returns false'. Refute it at one input. -/
def fnPageOfNextWrong : ChangeSpec := { name := "fnPageOfNext", fn := fun _ => fun
  | [d] => { results := [.lit (.bool false)], args := [d] }
  | _ => none }
def FnPageOfNextWrongFalsely : Prop := fnPageOfNextRow.holds Try.pinned (OpenSpec.ofChange fnPageOfNextWrong)

/-- 'laws.FnExactAllPages': WHATEVER THE INPUT: true; the input reads as it did. -/
def fnExactAllPagesSpec : ChangeSpec := { name := "fnExactAllPages", fn := fun _ => fun
  | [d1, d2] => { results := [.lit (.bool true)], args := [d1, d2] }
  | _ => none }
def fnExactAllPagesRow : OpenClaim := { program := "ytmeobmegnneegaa", sum := "75a24e771b53c486dba2c29a82efd4c55f26fbe338debc7b755667d96c325981", func := "loop.example/resourcestore/laws.FnExactAllPages", spec := "fnExactAllPages", recurses := true, loops := true, apart := false }
def FnExactAllPagesSaid : Prop := fnExactAllPagesRow.holds Try.pinned (OpenSpec.ofChange fnExactAllPagesSpec)

/-- ITS FALSE NEIGHBOUR: 'it returns false'. Refute it at one input. -/
def fnExactAllPagesWrong : ChangeSpec := { name := "fnExactAllPages", fn := fun _ => fun
  | [d1, d2] => { results := [.lit (.bool false)], args := [d1, d2] }
  | _ => none }
def FnExactAllPagesWrongFalsely : Prop := fnExactAllPagesRow.holds Try.pinned (OpenSpec.ofChange fnExactAllPagesWrong)

/-- 'laws.FnPageOfWhole': WHATEVER THE INPUT: true; the input reads as it did. -/
def fnPageOfWholeSpec : ChangeSpec := { name := "fnPageOfWhole", fn := fun _ => fun
  | [d] => { results := [.lit (.bool true)], args := [d] }
  | _ => none }
def fnPageOfWholeRow : OpenClaim := { program := "ytmeobmegnneegaa", sum := "75a24e771b53c486dba2c29a82efd4c55f26fbe338debc7b755667d96c325981", func := "loop.example/resourcestore/laws.FnPageOfWhole", spec := "fnPageOfWhole", recurses := true, apart := false }
def FnPageOfWholeSaid : Prop := fnPageOfWholeRow.holds Try.pinned (OpenSpec.ofChange fnPageOfWholeSpec)

/-- ITS FALSE NEIGHBOUR: 'it returns false'. Refute it at one input. -/
def fnPageOfWholeWrong : ChangeSpec := { name := "fnPageOfWhole", fn := fun _ => fun
  | [d] => { results := [.lit (.bool false)], args := [d] }
  | _ => none }
def FnPageOfWholeWrongFalsely : Prop := fnPageOfWholeRow.holds Try.pinned (OpenSpec.ofChange fnPageOfWholeWrong)

/-- 'laws.FnAllPages': WHATEVER THE INPUT: true; the input reads as it did. -/
def fnAllPagesSpec : ChangeSpec := { name := "fnAllPages", fn := fun _ => fun
  | [d] => { results := [.lit (.bool true)], args := [d] }
  | _ => none }
def fnAllPagesRow : OpenClaim := { program := "ytmeobmegnneegaa", sum := "75a24e771b53c486dba2c29a82efd4c55f26fbe338debc7b755667d96c325981", func := "loop.example/resourcestore/laws.FnAllPages", spec := "fnAllPages", recurses := true, apart := false }
def FnAllPagesSaid : Prop := fnAllPagesRow.holds Try.pinned (OpenSpec.ofChange fnAllPagesSpec)

/-- ITS FALSE NEIGHBOUR: 'it returns false'. Refute it at one input. -/
def fnAllPagesWrong : ChangeSpec := { name := "fnAllPages", fn := fun _ => fun
  | [d] => { results := [.lit (.bool false)], args := [d] }
  | _ => none }
def FnAllPagesWrongFalsely : Prop := fnAllPagesRow.holds Try.pinned (OpenSpec.ofChange fnAllPagesWrong)

/-- 'laws.FnAllPagesFull': WHATEVER THE INPUT: true; the input reads as it did. -/
def fnAllPagesFullSpec : ChangeSpec := { name := "fnAllPagesFull", fn := fun _ => fun
  | [d] => { results := [.lit (.bool true)], args := [d] }
  | _ => none }
def fnAllPagesFullRow : OpenClaim := { program := "ytmeobmegnneegaa", sum := "75a24e771b53c486dba2c29a82efd4c55f26fbe338debc7b755667d96c325981", func := "loop.example/resourcestore/laws.FnAllPagesFull", spec := "fnAllPagesFull", recurses := true, apart := false }
def FnAllPagesFullSaid : Prop := fnAllPagesFullRow.holds Try.pinned (OpenSpec.ofChange fnAllPagesFullSpec)

/-- ITS FALSE NEIGHBOUR: 'it returns false'. Refute it at one input. -/
def fnAllPagesFullWrong : ChangeSpec := { name := "fnAllPagesFull", fn := fun _ => fun
  | [d] => { results := [.lit (.bool false)], args := [d] }
  | _ => none }
def FnAllPagesFullWrongFalsely : Prop := fnAllPagesFullRow.holds Try.pinned (OpenSpec.ofChange fnAllPagesFullWrong)

/-- 'laws.FnGetItemAll': WHATEVER THE INPUT: true; the input reads as it did. -/
def fnGetItemAllSpec : ChangeSpec := { name := "fnGetItemAll", fn := fun _ => fun
  | [d] => { results := [.lit (.bool true)], args := [d] }
  | _ => none }
def fnGetItemAllRow : OpenClaim := { program := "ytmeobmegnneegaa", sum := "75a24e771b53c486dba2c29a82efd4c55f26fbe338debc7b755667d96c325981", func := "loop.example/resourcestore/laws.FnGetItemAll", spec := "fnGetItemAll", inPlace := ["internal/bytealg.abigen_runtime_cmpstring"], unfollowed := true, recurses := true, apart := false }
def FnGetItemAllSaid : Prop := fnGetItemAllRow.holds Try.pinned (OpenSpec.ofChange fnGetItemAllSpec)

/-- ITS FALSE NEIGHBOUR: 'it returns false'. Refute it at one input. -/
def fnGetItemAllWrong : ChangeSpec := { name := "fnGetItemAll", fn := fun _ => fun
  | [d] => { results := [.lit (.bool false)], args := [d] }
  | _ => none }
def FnGetItemAllWrongFalsely : Prop := fnGetItemAllRow.holds Try.pinned (OpenSpec.ofChange fnGetItemAllWrong)

/-- 'laws.FnGetItem': WHATEVER THE INPUT: true; the input reads as it did. -/
def fnGetItemSpec : ChangeSpec := { name := "fnGetItem", fn := fun _ => fun
  | [d] => { results := [.lit (.bool true)], args := [d] }
  | _ => none }
def fnGetItemRow : OpenClaim := { program := "ytmeobmegnneegaa", sum := "75a24e771b53c486dba2c29a82efd4c55f26fbe338debc7b755667d96c325981", func := "loop.example/resourcestore/laws.FnGetItem", spec := "fnGetItem", inPlace := ["internal/bytealg.abigen_runtime_cmpstring"], unfollowed := true, recurses := true, apart := false }
def FnGetItemSaid : Prop := fnGetItemRow.holds Try.pinned (OpenSpec.ofChange fnGetItemSpec)

/-- ITS FALSE NEIGHBOUR: 'it returns false'. Refute it at one input. -/
def fnGetItemWrong : ChangeSpec := { name := "fnGetItem", fn := fun _ => fun
  | [d] => { results := [.lit (.bool false)], args := [d] }
  | _ => none }
def FnGetItemWrongFalsely : Prop := fnGetItemRow.holds Try.pinned (OpenSpec.ofChange fnGetItemWrong)

/-- 'laws.FnApplyChange': WHATEVER THE INPUT: true; the input reads as it did. -/
def fnApplyChangeSpec : ChangeSpec := { name := "fnApplyChange", fn := fun _ => fun
  | [d] => { results := [.lit (.bool true)], args := [d] }
  | _ => none }
def fnApplyChangeRow : OpenClaim := { program := "ytmeobmegnneegaa", sum := "75a24e771b53c486dba2c29a82efd4c55f26fbe338debc7b755667d96c325981", func := "loop.example/resourcestore/laws.FnApplyChange", spec := "fnApplyChange", inPlace := ["internal/bytealg.abigen_runtime_cmpstring", "slices.overlaps[loop.example/resourcestore/impl.Item]"], unfollowed := true, recurses := true, apart := false }
def FnApplyChangeSaid : Prop := fnApplyChangeRow.holds Try.pinned (OpenSpec.ofChange fnApplyChangeSpec)

/-- ITS FALSE NEIGHBOUR: 'it returns false'. Refute it at one input. -/
def fnApplyChangeWrong : ChangeSpec := { name := "fnApplyChange", fn := fun _ => fun
  | [d] => { results := [.lit (.bool false)], args := [d] }
  | _ => none }
def FnApplyChangeWrongFalsely : Prop := fnApplyChangeRow.holds Try.pinned (OpenSpec.ofChange fnApplyChangeWrong)

/-- 'laws.FnExactGetItem': WHATEVER THE INPUT: true; the input reads as it did. -/
def fnExactGetItemSpec : ChangeSpec := { name := "fnExactGetItem", fn := fun _ => fun
  | [d1, d2] => { results := [.lit (.bool true)], args := [d1, d2] }
  | _ => none }
def fnExactGetItemRow : OpenClaim := { program := "ytmeobmegnneegaa", sum := "75a24e771b53c486dba2c29a82efd4c55f26fbe338debc7b755667d96c325981", func := "loop.example/resourcestore/laws.FnExactGetItem", spec := "fnExactGetItem", inPlace := ["internal/bytealg.abigen_runtime_cmpstring"], unfollowed := true, recurses := true, loops := true, apart := false }
def FnExactGetItemSaid : Prop := fnExactGetItemRow.holds Try.pinned (OpenSpec.ofChange fnExactGetItemSpec)

/-- ITS FALSE NEIGHBOUR: 'it returns false'. Refute it at one input. -/
def fnExactGetItemWrong : ChangeSpec := { name := "fnExactGetItem", fn := fun _ => fun
  | [d1, d2] => { results := [.lit (.bool false)], args := [d1, d2] }
  | _ => none }
def FnExactGetItemWrongFalsely : Prop := fnExactGetItemRow.holds Try.pinned (OpenSpec.ofChange fnExactGetItemWrong)

/-- 'laws.FnDropItemTwice': WHATEVER THE INPUT: true; the input reads as it did. -/
def fnDropItemTwiceSpec : ChangeSpec := { name := "fnDropItemTwice", fn := fun _ => fun
  | [d] => { results := [.lit (.bool true)], args := [d] }
  | _ => none }
def fnDropItemTwiceRow : OpenClaim := { program := "ytmeobmegnneegaa", sum := "75a24e771b53c486dba2c29a82efd4c55f26fbe338debc7b755667d96c325981", func := "loop.example/resourcestore/laws.FnDropItemTwice", spec := "fnDropItemTwice", inPlace := ["internal/bytealg.abigen_runtime_cmpstring"], unfollowed := true, recurses := true, apart := false }
def FnDropItemTwiceSaid : Prop := fnDropItemTwiceRow.holds Try.pinned (OpenSpec.ofChange fnDropItemTwiceSpec)

/-- ITS FALSE NEIGHBOUR: 'it returns false'. Refute it at one input. -/
def fnDropItemTwiceWrong : ChangeSpec := { name := "fnDropItemTwice", fn := fun _ => fun
  | [d] => { results := [.lit (.bool false)], args := [d] }
  | _ => none }
def FnDropItemTwiceWrongFalsely : Prop := fnDropItemTwiceRow.holds Try.pinned (OpenSpec.ofChange fnDropItemTwiceWrong)

/-- 'laws.FnDropItem': WHATEVER THE INPUT: true; the input reads as it did. -/
def fnDropItemSpec : ChangeSpec := { name := "fnDropItem", fn := fun _ => fun
  | [d] => { results := [.lit (.bool true)], args := [d] }
  | _ => none }
def fnDropItemRow : OpenClaim := { program := "ytmeobmegnneegaa", sum := "75a24e771b53c486dba2c29a82efd4c55f26fbe338debc7b755667d96c325981", func := "loop.example/resourcestore/laws.FnDropItem", spec := "fnDropItem", inPlace := ["internal/bytealg.abigen_runtime_cmpstring"], unfollowed := true, recurses := true, apart := false }
def FnDropItemSaid : Prop := fnDropItemRow.holds Try.pinned (OpenSpec.ofChange fnDropItemSpec)

/-- ITS FALSE NEIGHBOUR: 'it returns false'. Refute it at one input. -/
def fnDropItemWrong : ChangeSpec := { name := "fnDropItem", fn := fun _ => fun
  | [d] => { results := [.lit (.bool false)], args := [d] }
  | _ => none }
def FnDropItemWrongFalsely : Prop := fnDropItemRow.holds Try.pinned (OpenSpec.ofChange fnDropItemWrong)

/-- 'laws.FnExactDropItem': WHATEVER THE INPUT: true; the input reads as it did. -/
def fnExactDropItemSpec : ChangeSpec := { name := "fnExactDropItem", fn := fun _ => fun
  | [d1, d2] => { results := [.lit (.bool true)], args := [d1, d2] }
  | _ => none }
def fnExactDropItemRow : OpenClaim := { program := "ytmeobmegnneegaa", sum := "75a24e771b53c486dba2c29a82efd4c55f26fbe338debc7b755667d96c325981", func := "loop.example/resourcestore/laws.FnExactDropItem", spec := "fnExactDropItem", inPlace := ["internal/bytealg.abigen_runtime_cmpstring"], unfollowed := true, recurses := true, loops := true, apart := false }
def FnExactDropItemSaid : Prop := fnExactDropItemRow.holds Try.pinned (OpenSpec.ofChange fnExactDropItemSpec)

/-- ITS FALSE NEIGHBOUR: 'it returns false'. Refute it at one input. -/
def fnExactDropItemWrong : ChangeSpec := { name := "fnExactDropItem", fn := fun _ => fun
  | [d1, d2] => { results := [.lit (.bool false)], args := [d1, d2] }
  | _ => none }
def FnExactDropItemWrongFalsely : Prop := fnExactDropItemRow.holds Try.pinned (OpenSpec.ofChange fnExactDropItemWrong)

/-- 'laws.FnNewestItem': WHATEVER THE INPUT: true; the input reads as it did. -/
def fnNewestItemSpec : ChangeSpec := { name := "fnNewestItem", fn := fun _ => fun
  | [d] => { results := [.lit (.bool true)], args := [d] }
  | _ => none }
def fnNewestItemRow : OpenClaim := { program := "ytmeobmegnneegaa", sum := "75a24e771b53c486dba2c29a82efd4c55f26fbe338debc7b755667d96c325981", func := "loop.example/resourcestore/laws.FnNewestItem", spec := "fnNewestItem", inPlace := ["internal/bytealg.abigen_runtime_cmpstring", "slices.overlaps[loop.example/resourcestore/impl.Item]"], unfollowed := true, recurses := true, apart := false }
def FnNewestItemSaid : Prop := fnNewestItemRow.holds Try.pinned (OpenSpec.ofChange fnNewestItemSpec)

/-- ITS FALSE NEIGHBOUR: 'it returns false'. Refute it at one input. -/
def fnNewestItemWrong : ChangeSpec := { name := "fnNewestItem", fn := fun _ => fun
  | [d] => { results := [.lit (.bool false)], args := [d] }
  | _ => none }
def FnNewestItemWrongFalsely : Prop := fnNewestItemRow.holds Try.pinned (OpenSpec.ofChange fnNewestItemWrong)

/-- 'laws.FnPutItem': WHATEVER THE INPUT: true; the input reads as it did. -/
def fnPutItemSpec : ChangeSpec := { name := "fnPutItem", fn := fun _ => fun
  | [d] => { results := [.lit (.bool true)], args := [d] }
  | _ => none }
def fnPutItemRow : OpenClaim := { program := "ytmeobmegnneegaa", sum := "75a24e771b53c486dba2c29a82efd4c55f26fbe338debc7b755667d96c325981", func := "loop.example/resourcestore/laws.FnPutItem", spec := "fnPutItem", inPlace := ["internal/bytealg.abigen_runtime_cmpstring", "slices.overlaps[loop.example/resourcestore/impl.Item]"], unfollowed := true, recurses := true, apart := false }
def FnPutItemSaid : Prop := fnPutItemRow.holds Try.pinned (OpenSpec.ofChange fnPutItemSpec)

/-- ITS FALSE NEIGHBOUR: 'it returns false'. Refute it at one input. -/
def fnPutItemWrong : ChangeSpec := { name := "fnPutItem", fn := fun _ => fun
  | [d] => { results := [.lit (.bool false)], args := [d] }
  | _ => none }
def FnPutItemWrongFalsely : Prop := fnPutItemRow.holds Try.pinned (OpenSpec.ofChange fnPutItemWrong)

/-- 'laws.FnPutItemOnce': WHATEVER THE INPUT: true; the input reads as it did. -/
def fnPutItemOnceSpec : ChangeSpec := { name := "fnPutItemOnce", fn := fun _ => fun
  | [d] => { results := [.lit (.bool true)], args := [d] }
  | _ => none }
def fnPutItemOnceRow : OpenClaim := { program := "ytmeobmegnneegaa", sum := "75a24e771b53c486dba2c29a82efd4c55f26fbe338debc7b755667d96c325981", func := "loop.example/resourcestore/laws.FnPutItemOnce", spec := "fnPutItemOnce", inPlace := ["internal/bytealg.abigen_runtime_cmpstring", "slices.overlaps[loop.example/resourcestore/impl.Item]"], unfollowed := true, recurses := true, apart := false }
def FnPutItemOnceSaid : Prop := fnPutItemOnceRow.holds Try.pinned (OpenSpec.ofChange fnPutItemOnceSpec)

/-- ITS FALSE NEIGHBOUR: 'it returns false'. Refute it at one input. -/
def fnPutItemOnceWrong : ChangeSpec := { name := "fnPutItemOnce", fn := fun _ => fun
  | [d] => { results := [.lit (.bool false)], args := [d] }
  | _ => none }
def FnPutItemOnceWrongFalsely : Prop := fnPutItemOnceRow.holds Try.pinned (OpenSpec.ofChange fnPutItemOnceWrong)

/-- 'laws.FnPutItemSame': WHATEVER THE INPUT: true; the input reads as it did. -/
def fnPutItemSameSpec : ChangeSpec := { name := "fnPutItemSame", fn := fun _ => fun
  | [d] => { results := [.lit (.bool true)], args := [d] }
  | _ => none }
def fnPutItemSameRow : OpenClaim := { program := "ytmeobmegnneegaa", sum := "75a24e771b53c486dba2c29a82efd4c55f26fbe338debc7b755667d96c325981", func := "loop.example/resourcestore/laws.FnPutItemSame", spec := "fnPutItemSame", inPlace := ["internal/bytealg.abigen_runtime_cmpstring", "slices.overlaps[loop.example/resourcestore/impl.Item]"], unfollowed := true, recurses := true, apart := false }
def FnPutItemSameSaid : Prop := fnPutItemSameRow.holds Try.pinned (OpenSpec.ofChange fnPutItemSameSpec)

/-- ITS FALSE NEIGHBOUR: 'it returns false'. Refute it at one input. -/
def fnPutItemSameWrong : ChangeSpec := { name := "fnPutItemSame", fn := fun _ => fun
  | [d] => { results := [.lit (.bool false)], args := [d] }
  | _ => none }
def FnPutItemSameWrongFalsely : Prop := fnPutItemSameRow.holds Try.pinned (OpenSpec.ofChange fnPutItemSameWrong)

/-- 'laws.FnDropItemPut': WHATEVER THE INPUT: true; the input reads as it did. -/
def fnDropItemPutSpec : ChangeSpec := { name := "fnDropItemPut", fn := fun _ => fun
  | [d] => { results := [.lit (.bool true)], args := [d] }
  | _ => none }
def fnDropItemPutRow : OpenClaim := { program := "ytmeobmegnneegaa", sum := "75a24e771b53c486dba2c29a82efd4c55f26fbe338debc7b755667d96c325981", func := "loop.example/resourcestore/laws.FnDropItemPut", spec := "fnDropItemPut", inPlace := ["internal/bytealg.abigen_runtime_cmpstring", "slices.overlaps[loop.example/resourcestore/impl.Item]"], unfollowed := true, recurses := true, apart := false }
def FnDropItemPutSaid : Prop := fnDropItemPutRow.holds Try.pinned (OpenSpec.ofChange fnDropItemPutSpec)

/-- ITS FALSE NEIGHBOUR: 'it returns false'. Refute it at one input. -/
def fnDropItemPutWrong : ChangeSpec := { name := "fnDropItemPut", fn := fun _ => fun
  | [d] => { results := [.lit (.bool false)], args := [d] }
  | _ => none }
def FnDropItemPutWrongFalsely : Prop := fnDropItemPutRow.holds Try.pinned (OpenSpec.ofChange fnDropItemPutWrong)

/- THE SECOND FORM. 'bulk': how many values and letters a reading holds, each counted each time it is reached (what is shared counts as often as it is met; a slice's spare places count too). A statement '..UptoSaid' is the law's where the arguments, and the package variables that the reading takes, are together of bulk at most 1048576: NARROWER than '..Said'. Prove '..Said' where nothing that the law and all that it calls make is longer than what came in: it says more and counts as full. Else prove '..UptoSaid'. A law counts once. -/
mutual
def uptoBulk {H : Type} : DataW H → Nat
  | .lit (.string bytes) => bytes.length + 1
  | .lit _ => 1
  | .nil => 1
  | .ptr d => uptoBulk d + 1
  | .slice elems spare => uptoBulkAll elems + uptoBulkAll spare + 1
  | .agg parts => uptoBulkAll parts + 1
  | .iface _ d => uptoBulk d + 1
  | .map entries => uptoBulkEntries entries + 1
  | .held _ => 1
def uptoBulkAll {H : Type} : List (DataW H) → Nat
  | [] => 0
  | d :: r => uptoBulk d + uptoBulkAll r
def uptoBulkEntries {H : Type} : List (Lit × DataW H) → Nat
  | [] => 0
  | x :: r => uptoBulkEntry x + uptoBulkEntries r
def uptoBulkEntry {H : Type} : Lit × DataW H → Nat
  | (.string bytes, d) => bytes.length + uptoBulk d + 1
  | (_, d) => uptoBulk d + 1
 end
def uptoSmall : (H : Type) → List (DataW H) → Bool := fun _ ds => decide (uptoBulkAll ds ≤ 1048576)
def OpenSpec.upto (s : _root_.Go.ChangeSpec) : _root_.Go.OpenSpec := { _root_.Go.OpenSpec.ofChange s with cond := some uptoSmall }

/-- 'laws.FnExactPutItem', WHERE WHAT IT READS IS OF BULK AT MOST 1048576: true; the input reads as it did. -/
def fnExactPutItemUptoRow : OpenClaim := { program := "ytmeobmegnneegaa", sum := "75a24e771b53c486dba2c29a82efd4c55f26fbe338debc7b755667d96c325981", func := "loop.example/resourcestore/laws.FnExactPutItem", spec := "fnExactPutItem", inPlace := ["internal/bytealg.abigen_runtime_cmpstring", "slices.overlaps[loop.example/resourcestore/impl.Item]"], unfollowed := true, recurses := true, loops := true, apart := false, narrowed := true }
def FnExactPutItemUptoSaid : Prop := fnExactPutItemUptoRow.holds Try.pinned (OpenSpec.upto fnExactPutItemSpec)

/-- 'laws.FnPageOf', WHERE WHAT IT READS IS OF BULK AT MOST 1048576: true; the input reads as it did. -/
def fnPageOfUptoRow : OpenClaim := { program := "ytmeobmegnneegaa", sum := "75a24e771b53c486dba2c29a82efd4c55f26fbe338debc7b755667d96c325981", func := "loop.example/resourcestore/laws.FnPageOf", spec := "fnPageOf", recurses := true, apart := false, narrowed := true }
def FnPageOfUptoSaid : Prop := fnPageOfUptoRow.holds Try.pinned (OpenSpec.upto fnPageOfSpec)

/-- 'laws.FnPageOfNext', WHERE WHAT IT READS IS OF BULK AT MOST 1048576: true; the input reads as it did. -/
def fnPageOfNextUptoRow : OpenClaim := { program := "ytmeobmegnneegaa", sum := "75a24e771b53c486dba2c29a82efd4c55f26fbe338debc7b755667d96c325981", func := "loop.example/resourcestore/laws.FnPageOfNext", spec := "fnPageOfNext", recurses := true, apart := false, narrowed := true }
def FnPageOfNextUptoSaid : Prop := fnPageOfNextUptoRow.holds Try.pinned (OpenSpec.upto fnPageOfNextSpec)

/-- 'laws.FnExactAllPages', WHERE WHAT IT READS IS OF BULK AT MOST 1048576: true; the input reads as it did. -/
def fnExactAllPagesUptoRow : OpenClaim := { program := "ytmeobmegnneegaa", sum := "75a24e771b53c486dba2c29a82efd4c55f26fbe338debc7b755667d96c325981", func := "loop.example/resourcestore/laws.FnExactAllPages", spec := "fnExactAllPages", recurses := true, loops := true, apart := false, narrowed := true }
def FnExactAllPagesUptoSaid : Prop := fnExactAllPagesUptoRow.holds Try.pinned (OpenSpec.upto fnExactAllPagesSpec)

/-- 'laws.FnPageOfWhole', WHERE WHAT IT READS IS OF BULK AT MOST 1048576: true; the input reads as it did. -/
def fnPageOfWholeUptoRow : OpenClaim := { program := "ytmeobmegnneegaa", sum := "75a24e771b53c486dba2c29a82efd4c55f26fbe338debc7b755667d96c325981", func := "loop.example/resourcestore/laws.FnPageOfWhole", spec := "fnPageOfWhole", recurses := true, apart := false, narrowed := true }
def FnPageOfWholeUptoSaid : Prop := fnPageOfWholeUptoRow.holds Try.pinned (OpenSpec.upto fnPageOfWholeSpec)

/-- 'laws.FnAllPages', WHERE WHAT IT READS IS OF BULK AT MOST 1048576: true; the input reads as it did. -/
def fnAllPagesUptoRow : OpenClaim := { program := "ytmeobmegnneegaa", sum := "75a24e771b53c486dba2c29a82efd4c55f26fbe338debc7b755667d96c325981", func := "loop.example/resourcestore/laws.FnAllPages", spec := "fnAllPages", recurses := true, apart := false, narrowed := true }
def FnAllPagesUptoSaid : Prop := fnAllPagesUptoRow.holds Try.pinned (OpenSpec.upto fnAllPagesSpec)

/-- 'laws.FnAllPagesFull', WHERE WHAT IT READS IS OF BULK AT MOST 1048576: true; the input reads as it did. -/
def fnAllPagesFullUptoRow : OpenClaim := { program := "ytmeobmegnneegaa", sum := "75a24e771b53c486dba2c29a82efd4c55f26fbe338debc7b755667d96c325981", func := "loop.example/resourcestore/laws.FnAllPagesFull", spec := "fnAllPagesFull", recurses := true, apart := false, narrowed := true }
def FnAllPagesFullUptoSaid : Prop := fnAllPagesFullUptoRow.holds Try.pinned (OpenSpec.upto fnAllPagesFullSpec)

/-- 'laws.FnGetItemAll', WHERE WHAT IT READS IS OF BULK AT MOST 1048576: true; the input reads as it did. -/
def fnGetItemAllUptoRow : OpenClaim := { program := "ytmeobmegnneegaa", sum := "75a24e771b53c486dba2c29a82efd4c55f26fbe338debc7b755667d96c325981", func := "loop.example/resourcestore/laws.FnGetItemAll", spec := "fnGetItemAll", inPlace := ["internal/bytealg.abigen_runtime_cmpstring"], unfollowed := true, recurses := true, apart := false, narrowed := true }
def FnGetItemAllUptoSaid : Prop := fnGetItemAllUptoRow.holds Try.pinned (OpenSpec.upto fnGetItemAllSpec)

/-- 'laws.FnGetItem', WHERE WHAT IT READS IS OF BULK AT MOST 1048576: true; the input reads as it did. -/
def fnGetItemUptoRow : OpenClaim := { program := "ytmeobmegnneegaa", sum := "75a24e771b53c486dba2c29a82efd4c55f26fbe338debc7b755667d96c325981", func := "loop.example/resourcestore/laws.FnGetItem", spec := "fnGetItem", inPlace := ["internal/bytealg.abigen_runtime_cmpstring"], unfollowed := true, recurses := true, apart := false, narrowed := true }
def FnGetItemUptoSaid : Prop := fnGetItemUptoRow.holds Try.pinned (OpenSpec.upto fnGetItemSpec)

/-- 'laws.FnApplyChange', WHERE WHAT IT READS IS OF BULK AT MOST 1048576: true; the input reads as it did. -/
def fnApplyChangeUptoRow : OpenClaim := { program := "ytmeobmegnneegaa", sum := "75a24e771b53c486dba2c29a82efd4c55f26fbe338debc7b755667d96c325981", func := "loop.example/resourcestore/laws.FnApplyChange", spec := "fnApplyChange", inPlace := ["internal/bytealg.abigen_runtime_cmpstring", "slices.overlaps[loop.example/resourcestore/impl.Item]"], unfollowed := true, recurses := true, apart := false, narrowed := true }
def FnApplyChangeUptoSaid : Prop := fnApplyChangeUptoRow.holds Try.pinned (OpenSpec.upto fnApplyChangeSpec)

/-- 'laws.FnExactGetItem', WHERE WHAT IT READS IS OF BULK AT MOST 1048576: true; the input reads as it did. -/
def fnExactGetItemUptoRow : OpenClaim := { program := "ytmeobmegnneegaa", sum := "75a24e771b53c486dba2c29a82efd4c55f26fbe338debc7b755667d96c325981", func := "loop.example/resourcestore/laws.FnExactGetItem", spec := "fnExactGetItem", inPlace := ["internal/bytealg.abigen_runtime_cmpstring"], unfollowed := true, recurses := true, loops := true, apart := false, narrowed := true }
def FnExactGetItemUptoSaid : Prop := fnExactGetItemUptoRow.holds Try.pinned (OpenSpec.upto fnExactGetItemSpec)

/-- 'laws.FnDropItemTwice', WHERE WHAT IT READS IS OF BULK AT MOST 1048576: true; the input reads as it did. -/
def fnDropItemTwiceUptoRow : OpenClaim := { program := "ytmeobmegnneegaa", sum := "75a24e771b53c486dba2c29a82efd4c55f26fbe338debc7b755667d96c325981", func := "loop.example/resourcestore/laws.FnDropItemTwice", spec := "fnDropItemTwice", inPlace := ["internal/bytealg.abigen_runtime_cmpstring"], unfollowed := true, recurses := true, apart := false, narrowed := true }
def FnDropItemTwiceUptoSaid : Prop := fnDropItemTwiceUptoRow.holds Try.pinned (OpenSpec.upto fnDropItemTwiceSpec)

/-- 'laws.FnDropItem', WHERE WHAT IT READS IS OF BULK AT MOST 1048576: true; the input reads as it did. -/
def fnDropItemUptoRow : OpenClaim := { program := "ytmeobmegnneegaa", sum := "75a24e771b53c486dba2c29a82efd4c55f26fbe338debc7b755667d96c325981", func := "loop.example/resourcestore/laws.FnDropItem", spec := "fnDropItem", inPlace := ["internal/bytealg.abigen_runtime_cmpstring"], unfollowed := true, recurses := true, apart := false, narrowed := true }
def FnDropItemUptoSaid : Prop := fnDropItemUptoRow.holds Try.pinned (OpenSpec.upto fnDropItemSpec)

/-- 'laws.FnExactDropItem', WHERE WHAT IT READS IS OF BULK AT MOST 1048576: true; the input reads as it did. -/
def fnExactDropItemUptoRow : OpenClaim := { program := "ytmeobmegnneegaa", sum := "75a24e771b53c486dba2c29a82efd4c55f26fbe338debc7b755667d96c325981", func := "loop.example/resourcestore/laws.FnExactDropItem", spec := "fnExactDropItem", inPlace := ["internal/bytealg.abigen_runtime_cmpstring"], unfollowed := true, recurses := true, loops := true, apart := false, narrowed := true }
def FnExactDropItemUptoSaid : Prop := fnExactDropItemUptoRow.holds Try.pinned (OpenSpec.upto fnExactDropItemSpec)

/-- 'laws.FnNewestItem', WHERE WHAT IT READS IS OF BULK AT MOST 1048576: true; the input reads as it did. -/
def fnNewestItemUptoRow : OpenClaim := { program := "ytmeobmegnneegaa", sum := "75a24e771b53c486dba2c29a82efd4c55f26fbe338debc7b755667d96c325981", func := "loop.example/resourcestore/laws.FnNewestItem", spec := "fnNewestItem", inPlace := ["internal/bytealg.abigen_runtime_cmpstring", "slices.overlaps[loop.example/resourcestore/impl.Item]"], unfollowed := true, recurses := true, apart := false, narrowed := true }
def FnNewestItemUptoSaid : Prop := fnNewestItemUptoRow.holds Try.pinned (OpenSpec.upto fnNewestItemSpec)

/-- 'laws.FnPutItem', WHERE WHAT IT READS IS OF BULK AT MOST 1048576: true; the input reads as it did. -/
def fnPutItemUptoRow : OpenClaim := { program := "ytmeobmegnneegaa", sum := "75a24e771b53c486dba2c29a82efd4c55f26fbe338debc7b755667d96c325981", func := "loop.example/resourcestore/laws.FnPutItem", spec := "fnPutItem", inPlace := ["internal/bytealg.abigen_runtime_cmpstring", "slices.overlaps[loop.example/resourcestore/impl.Item]"], unfollowed := true, recurses := true, apart := false, narrowed := true }
def FnPutItemUptoSaid : Prop := fnPutItemUptoRow.holds Try.pinned (OpenSpec.upto fnPutItemSpec)

/-- 'laws.FnPutItemOnce', WHERE WHAT IT READS IS OF BULK AT MOST 1048576: true; the input reads as it did. -/
def fnPutItemOnceUptoRow : OpenClaim := { program := "ytmeobmegnneegaa", sum := "75a24e771b53c486dba2c29a82efd4c55f26fbe338debc7b755667d96c325981", func := "loop.example/resourcestore/laws.FnPutItemOnce", spec := "fnPutItemOnce", inPlace := ["internal/bytealg.abigen_runtime_cmpstring", "slices.overlaps[loop.example/resourcestore/impl.Item]"], unfollowed := true, recurses := true, apart := false, narrowed := true }
def FnPutItemOnceUptoSaid : Prop := fnPutItemOnceUptoRow.holds Try.pinned (OpenSpec.upto fnPutItemOnceSpec)

/-- 'laws.FnPutItemSame', WHERE WHAT IT READS IS OF BULK AT MOST 1048576: true; the input reads as it did. -/
def fnPutItemSameUptoRow : OpenClaim := { program := "ytmeobmegnneegaa", sum := "75a24e771b53c486dba2c29a82efd4c55f26fbe338debc7b755667d96c325981", func := "loop.example/resourcestore/laws.FnPutItemSame", spec := "fnPutItemSame", inPlace := ["internal/bytealg.abigen_runtime_cmpstring", "slices.overlaps[loop.example/resourcestore/impl.Item]"], unfollowed := true, recurses := true, apart := false, narrowed := true }
def FnPutItemSameUptoSaid : Prop := fnPutItemSameUptoRow.holds Try.pinned (OpenSpec.upto fnPutItemSameSpec)

/-- 'laws.FnDropItemPut', WHERE WHAT IT READS IS OF BULK AT MOST 1048576: true; the input reads as it did. -/
def fnDropItemPutUptoRow : OpenClaim := { program := "ytmeobmegnneegaa", sum := "75a24e771b53c486dba2c29a82efd4c55f26fbe338debc7b755667d96c325981", func := "loop.example/resourcestore/laws.FnDropItemPut", spec := "fnDropItemPut", inPlace := ["internal/bytealg.abigen_runtime_cmpstring", "slices.overlaps[loop.example/resourcestore/impl.Item]"], unfollowed := true, recurses := true, apart := false, narrowed := true }
def FnDropItemPutUptoSaid : Prop := fnDropItemPutUptoRow.holds Try.pinned (OpenSpec.upto fnDropItemPutSpec)

end Rows
end Go.Proofs.Ytmeobmegnneegaa
