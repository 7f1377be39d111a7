/-
  NARROWER THAN 'FOR EVERY INPUT', by the rows' own cells (each row's printed sentence says how): FnExactFormatNode: loops, laid · FnExactTextSize: loops, laid · FnValidNode: laid · FnExactTagOf: loops, laid · FnNodeTextParts: laid · FnTextSize: laid · FnTagOfChange: laid · FnExactStoreSize: loops, laid.
  DERIVED. THE GIVEN ROWS OF THIS SEAT. 8 by the template 'for every input the law returns true; each argument reads behind the call as it read before'; 0 by the template 'total and deterministic' (their statements: YtoedpagdklagdaaDoorTotals.lean).
  GIVEN WITH THE SEED: the statements are not yours to turn. If you find one false, say at which input.
  Laid BY PROGRAM, IN A SANDBOX (cutbox-rows.mjs): the forced cells as the released guide's own fill.sh prints them over the translation 30466d9c412fa395… (all of the seat's roots in one cut). By AI agents, Wed Nov 11 2026. No macro, syntax, notation, axiom, sorry.
-/
import Derived.Test.YtoedpagdklagdaaDoorChecked
import GoSem.Claim
import GoSem.ClaimJoined
import GoSem.ClaimMapViews
import Derived.JoinedTies
import Derived.KernelRfl
namespace Go.Proofs.YtoedpagdklagdaaDoor
/- THE CELL 'sum', in the pinned program and in every row, IS THE sha256 OF THE DUMP (.gsa) THAT YtoedpagdklagdaaDoorProg.lean LOADS. Nothing in Lean hashes anything: it is a label: what it is worth is what the hold of that sum in a sandbox is worth. -/
noncomputable def Tryd.pinned : Pinned := { name := "ytoedpagdklagdaadoor", sum := "30466d9c412fa395e50630782ee41a72f73ce59fd657f0f65b9be62ffbe6dcf9", checked := Tryd.checked }
namespace Rows
def none {H : Type} : Left H := { results := [], args := [] }

/- WHAT THE LISTED PACKAGE-LEVEL VARIABLES READ AS WHEN THE CALL BEGINS. Each datum BY PROGRAM (the guide's laid-datum.mjs) off the statement by which the dump's own 'gosem.cut.vars' lays the variable. In a bare row this is a premise. The card (YtoedpagdklagdaaDoorCards.lean) ties it to the program's text. -/
def laid_math_bits_deBruijn32tab {H : Type} : DataW H := .agg [.lit (.int .u8 0), .lit (.int .u8 1), .lit (.int .u8 28), .lit (.int .u8 2), .lit (.int .u8 29), .lit (.int .u8 14), .lit (.int .u8 24), .lit (.int .u8 3), .lit (.int .u8 30), .lit (.int .u8 22), .lit (.int .u8 20), .lit (.int .u8 15), .lit (.int .u8 25), .lit (.int .u8 17), .lit (.int .u8 4), .lit (.int .u8 8), .lit (.int .u8 31), .lit (.int .u8 27), .lit (.int .u8 13), .lit (.int .u8 23), .lit (.int .u8 21), .lit (.int .u8 19), .lit (.int .u8 16), .lit (.int .u8 7), .lit (.int .u8 26), .lit (.int .u8 12), .lit (.int .u8 18), .lit (.int .u8 6), .lit (.int .u8 11), .lit (.int .u8 5), .lit (.int .u8 10), .lit (.int .u8 9)]
def laid_math_bits_deBruijn64tab {H : Type} : DataW H := .agg [.lit (.int .u8 0), .lit (.int .u8 1), .lit (.int .u8 56), .lit (.int .u8 2), .lit (.int .u8 57), .lit (.int .u8 49), .lit (.int .u8 28), .lit (.int .u8 3), .lit (.int .u8 61), .lit (.int .u8 58), .lit (.int .u8 42), .lit (.int .u8 50), .lit (.int .u8 38), .lit (.int .u8 29), .lit (.int .u8 17), .lit (.int .u8 4), .lit (.int .u8 62), .lit (.int .u8 47), .lit (.int .u8 59), .lit (.int .u8 36), .lit (.int .u8 45), .lit (.int .u8 43), .lit (.int .u8 51), .lit (.int .u8 22), .lit (.int .u8 53), .lit (.int .u8 39), .lit (.int .u8 33), .lit (.int .u8 30), .lit (.int .u8 24), .lit (.int .u8 18), .lit (.int .u8 12), .lit (.int .u8 5), .lit (.int .u8 63), .lit (.int .u8 55), .lit (.int .u8 48), .lit (.int .u8 27), .lit (.int .u8 60), .lit (.int .u8 41), .lit (.int .u8 37), .lit (.int .u8 16), .lit (.int .u8 46), .lit (.int .u8 35), .lit (.int .u8 44), .lit (.int .u8 21), .lit (.int .u8 52), .lit (.int .u8 32), .lit (.int .u8 23), .lit (.int .u8 11), .lit (.int .u8 54), .lit (.int .u8 26), .lit (.int .u8 40), .lit (.int .u8 15), .lit (.int .u8 34), .lit (.int .u8 20), .lit (.int .u8 31), .lit (.int .u8 10), .lit (.int .u8 25), .lit (.int .u8 14), .lit (.int .u8 19), .lit (.int .u8 9), .lit (.int .u8 13), .lit (.int .u8 8), .lit (.int .u8 7), .lit (.int .u8 6)]
def laid_internal_strconv_uint64pow10 {H : Type} : DataW H := .agg [.lit (.int .u64 1), .lit (.int .u64 10), .lit (.int .u64 100), .lit (.int .u64 1000), .lit (.int .u64 10000), .lit (.int .u64 100000), .lit (.int .u64 1000000), .lit (.int .u64 10000000), .lit (.int .u64 100000000), .lit (.int .u64 1000000000), .lit (.int .u64 10000000000), .lit (.int .u64 100000000000), .lit (.int .u64 1000000000000), .lit (.int .u64 10000000000000), .lit (.int .u64 100000000000000), .lit (.int .u64 1000000000000000), .lit (.int .u64 10000000000000000), .lit (.int .u64 100000000000000000), .lit (.int .u64 1000000000000000000), .lit (.int .u64 10000000000000000000)]

/-- 'laws.FnExactFormatNode': WHATEVER THE INPUT: true; the input reads as it did. -/
def fnExactFormatNodeSpec : ChangeSpec := { name := "fnExactFormatNode", fn := fun _ => fun
  | [d] => { results := [.lit (.bool true)], args := [d] }
  | _ => none }
def fnExactFormatNodeRow : OpenClaim := { program := "ytoedpagdklagdaadoor", sum := "30466d9c412fa395e50630782ee41a72f73ce59fd657f0f65b9be62ffbe6dcf9", func := "loop.example/resourcestore/laws.FnExactFormatNode", spec := "fnExactFormatNode", inPlace := ["internal/abi.NoEscape"], recurses := true, named := ["internal/strconv.uint64pow10", "math/bits.deBruijn32tab", "math/bits.deBruijn64tab"], loops := true, apart := false, laid := [("math/bits.deBruijn32tab", laid_math_bits_deBruijn32tab), ("math/bits.deBruijn64tab", laid_math_bits_deBruijn64tab), ("internal/strconv.uint64pow10", laid_internal_strconv_uint64pow10)] }
def FnExactFormatNodeSaid : Prop := fnExactFormatNodeRow.holds Tryd.pinned (OpenSpec.ofChange fnExactFormatNodeSpec)

/-- ITS FALSE NEIGHBOUR: 'it returns false'. Refute it at one input. -/
def fnExactFormatNodeWrong : ChangeSpec := { name := "fnExactFormatNode", fn := fun _ => fun
  | [d] => { results := [.lit (.bool false)], args := [d] }
  | _ => none }
def FnExactFormatNodeWrongFalsely : Prop := fnExactFormatNodeRow.holds Tryd.pinned (OpenSpec.ofChange fnExactFormatNodeWrong)

/-- 'laws.FnExactTextSize': WHATEVER THE INPUT: true; the input reads as it did. -/
def fnExactTextSizeSpec : ChangeSpec := { name := "fnExactTextSize", fn := fun _ => fun
  | [d] => { results := [.lit (.bool true)], args := [d] }
  | _ => none }
def fnExactTextSizeRow : OpenClaim := { program := "ytoedpagdklagdaadoor", sum := "30466d9c412fa395e50630782ee41a72f73ce59fd657f0f65b9be62ffbe6dcf9", func := "loop.example/resourcestore/laws.FnExactTextSize", spec := "fnExactTextSize", inPlace := ["internal/abi.NoEscape"], recurses := true, named := ["internal/strconv.uint64pow10", "math/bits.deBruijn32tab", "math/bits.deBruijn64tab"], loops := true, apart := false, laid := [("math/bits.deBruijn32tab", laid_math_bits_deBruijn32tab), ("math/bits.deBruijn64tab", laid_math_bits_deBruijn64tab), ("internal/strconv.uint64pow10", laid_internal_strconv_uint64pow10)] }
def FnExactTextSizeSaid : Prop := fnExactTextSizeRow.holds Tryd.pinned (OpenSpec.ofChange fnExactTextSizeSpec)

/-- ITS FALSE NEIGHBOUR: 'it returns false'. Refute it at one input. -/
def fnExactTextSizeWrong : ChangeSpec := { name := "fnExactTextSize", fn := fun _ => fun
  | [d] => { results := [.lit (.bool false)], args := [d] }
  | _ => none }
def FnExactTextSizeWrongFalsely : Prop := fnExactTextSizeRow.holds Tryd.pinned (OpenSpec.ofChange fnExactTextSizeWrong)

/-- 'laws.FnValidNode': WHATEVER THE INPUT: true; the input reads as it did. -/
def fnValidNodeSpec : ChangeSpec := { name := "fnValidNode", fn := fun _ => fun
  | [d] => { results := [.lit (.bool true)], args := [d] }
  | _ => none }
def fnValidNodeRow : OpenClaim := { program := "ytoedpagdklagdaadoor", sum := "30466d9c412fa395e50630782ee41a72f73ce59fd657f0f65b9be62ffbe6dcf9", func := "loop.example/resourcestore/laws.FnValidNode", spec := "fnValidNode", inPlace := ["internal/abi.NoEscape"], recurses := true, named := ["internal/strconv.uint64pow10", "math/bits.deBruijn32tab", "math/bits.deBruijn64tab"], apart := false, laid := [("math/bits.deBruijn32tab", laid_math_bits_deBruijn32tab), ("math/bits.deBruijn64tab", laid_math_bits_deBruijn64tab), ("internal/strconv.uint64pow10", laid_internal_strconv_uint64pow10)] }
def FnValidNodeSaid : Prop := fnValidNodeRow.holds Tryd.pinned (OpenSpec.ofChange fnValidNodeSpec)

/-- ITS FALSE NEIGHBOUR: 'it returns false'. Refute it at one input. -/
def fnValidNodeWrong : ChangeSpec := { name := "fnValidNode", fn := fun _ => fun
  | [d] => { results := [.lit (.bool false)], args := [d] }
  | _ => none }
def FnValidNodeWrongFalsely : Prop := fnValidNodeRow.holds Tryd.pinned (OpenSpec.ofChange fnValidNodeWrong)

/-- 'laws.FnExactTagOf': WHATEVER THE INPUT: true; the input reads as it did. -/
def fnExactTagOfSpec : ChangeSpec := { name := "fnExactTagOf", fn := fun _ => fun
  | [d] => { results := [.lit (.bool true)], args := [d] }
  | _ => none }
def fnExactTagOfRow : OpenClaim := { program := "ytoedpagdklagdaadoor", sum := "30466d9c412fa395e50630782ee41a72f73ce59fd657f0f65b9be62ffbe6dcf9", func := "loop.example/resourcestore/laws.FnExactTagOf", spec := "fnExactTagOf", inPlace := ["internal/abi.NoEscape"], recurses := true, named := ["internal/strconv.uint64pow10", "math/bits.deBruijn32tab", "math/bits.deBruijn64tab"], loops := true, apart := false, laid := [("math/bits.deBruijn32tab", laid_math_bits_deBruijn32tab), ("math/bits.deBruijn64tab", laid_math_bits_deBruijn64tab), ("internal/strconv.uint64pow10", laid_internal_strconv_uint64pow10)] }
def FnExactTagOfSaid : Prop := fnExactTagOfRow.holds Tryd.pinned (OpenSpec.ofChange fnExactTagOfSpec)

/-- ITS FALSE NEIGHBOUR: 'it returns false'. Refute it at one input. -/
def fnExactTagOfWrong : ChangeSpec := { name := "fnExactTagOf", fn := fun _ => fun
  | [d] => { results := [.lit (.bool false)], args := [d] }
  | _ => none }
def FnExactTagOfWrongFalsely : Prop := fnExactTagOfRow.holds Tryd.pinned (OpenSpec.ofChange fnExactTagOfWrong)

/-- 'laws.FnNodeTextParts': WHATEVER THE INPUT: true; the input reads as it did. -/
def fnNodeTextPartsSpec : ChangeSpec := { name := "fnNodeTextParts", fn := fun _ => fun
  | [d] => { results := [.lit (.bool true)], args := [d] }
  | _ => none }
def fnNodeTextPartsRow : OpenClaim := { program := "ytoedpagdklagdaadoor", sum := "30466d9c412fa395e50630782ee41a72f73ce59fd657f0f65b9be62ffbe6dcf9", func := "loop.example/resourcestore/laws.FnNodeTextParts", spec := "fnNodeTextParts", inPlace := ["internal/abi.NoEscape"], recurses := true, named := ["internal/strconv.uint64pow10", "math/bits.deBruijn32tab", "math/bits.deBruijn64tab"], apart := false, laid := [("math/bits.deBruijn32tab", laid_math_bits_deBruijn32tab), ("math/bits.deBruijn64tab", laid_math_bits_deBruijn64tab), ("internal/strconv.uint64pow10", laid_internal_strconv_uint64pow10)] }
def FnNodeTextPartsSaid : Prop := fnNodeTextPartsRow.holds Tryd.pinned (OpenSpec.ofChange fnNodeTextPartsSpec)

/-- ITS FALSE NEIGHBOUR: 'it returns false'. Refute it at one input. -/
def fnNodeTextPartsWrong : ChangeSpec := { name := "fnNodeTextParts", fn := fun _ => fun
  | [d] => { results := [.lit (.bool false)], args := [d] }
  | _ => none }
def FnNodeTextPartsWrongFalsely : Prop := fnNodeTextPartsRow.holds Tryd.pinned (OpenSpec.ofChange fnNodeTextPartsWrong)

/-- 'laws.FnTextSize': WHATEVER THE INPUT: true; the input reads as it did. -/
def fnTextSizeSpec : ChangeSpec := { name := "fnTextSize", fn := fun _ => fun
  | [d] => { results := [.lit (.bool true)], args := [d] }
  | _ => none }
def fnTextSizeRow : OpenClaim := { program := "ytoedpagdklagdaadoor", sum := "30466d9c412fa395e50630782ee41a72f73ce59fd657f0f65b9be62ffbe6dcf9", func := "loop.example/resourcestore/laws.FnTextSize", spec := "fnTextSize", inPlace := ["internal/abi.NoEscape"], recurses := true, named := ["internal/strconv.uint64pow10", "math/bits.deBruijn32tab", "math/bits.deBruijn64tab"], apart := false, laid := [("math/bits.deBruijn32tab", laid_math_bits_deBruijn32tab), ("math/bits.deBruijn64tab", laid_math_bits_deBruijn64tab), ("internal/strconv.uint64pow10", laid_internal_strconv_uint64pow10)] }
def FnTextSizeSaid : Prop := fnTextSizeRow.holds Tryd.pinned (OpenSpec.ofChange fnTextSizeSpec)

/-- ITS FALSE NEIGHBOUR: 'it returns false'. Refute it at one input. -/
def fnTextSizeWrong : ChangeSpec := { name := "fnTextSize", fn := fun _ => fun
  | [d] => { results := [.lit (.bool false)], args := [d] }
  | _ => none }
def FnTextSizeWrongFalsely : Prop := fnTextSizeRow.holds Tryd.pinned (OpenSpec.ofChange fnTextSizeWrong)

/-- 'laws.FnTagOfChange': WHATEVER THE INPUT: true; the input reads as it did. -/
def fnTagOfChangeSpec : ChangeSpec := { name := "fnTagOfChange", fn := fun _ => fun
  | [d] => { results := [.lit (.bool true)], args := [d] }
  | _ => none }
def fnTagOfChangeRow : OpenClaim := { program := "ytoedpagdklagdaadoor", sum := "30466d9c412fa395e50630782ee41a72f73ce59fd657f0f65b9be62ffbe6dcf9", func := "loop.example/resourcestore/laws.FnTagOfChange", spec := "fnTagOfChange", inPlace := ["internal/abi.NoEscape"], recurses := true, named := ["internal/strconv.uint64pow10", "math/bits.deBruijn32tab", "math/bits.deBruijn64tab"], apart := false, laid := [("math/bits.deBruijn32tab", laid_math_bits_deBruijn32tab), ("math/bits.deBruijn64tab", laid_math_bits_deBruijn64tab), ("internal/strconv.uint64pow10", laid_internal_strconv_uint64pow10)] }
def FnTagOfChangeSaid : Prop := fnTagOfChangeRow.holds Tryd.pinned (OpenSpec.ofChange fnTagOfChangeSpec)

/-- ITS FALSE NEIGHBOUR: 'it returns false'. Refute it at one input. -/
def fnTagOfChangeWrong : ChangeSpec := { name := "fnTagOfChange", fn := fun _ => fun
  | [d] => { results := [.lit (.bool false)], args := [d] }
  | _ => none }
def FnTagOfChangeWrongFalsely : Prop := fnTagOfChangeRow.holds Tryd.pinned (OpenSpec.ofChange fnTagOfChangeWrong)

/-- 'laws.FnExactStoreSize': WHATEVER THE INPUT: true; the input reads as it did. -/
def fnExactStoreSizeSpec : ChangeSpec := { name := "fnExactStoreSize", fn := fun _ => fun
  | [d] => { results := [.lit (.bool true)], args := [d] }
  | _ => none }
def fnExactStoreSizeRow : OpenClaim := { program := "ytoedpagdklagdaadoor", sum := "30466d9c412fa395e50630782ee41a72f73ce59fd657f0f65b9be62ffbe6dcf9", func := "loop.example/resourcestore/laws.FnExactStoreSize", spec := "fnExactStoreSize", inPlace := ["internal/abi.NoEscape"], recurses := true, named := ["internal/strconv.uint64pow10", "math/bits.deBruijn32tab", "math/bits.deBruijn64tab"], loops := true, apart := false, laid := [("math/bits.deBruijn32tab", laid_math_bits_deBruijn32tab), ("math/bits.deBruijn64tab", laid_math_bits_deBruijn64tab), ("internal/strconv.uint64pow10", laid_internal_strconv_uint64pow10)] }
def FnExactStoreSizeSaid : Prop := fnExactStoreSizeRow.holds Tryd.pinned (OpenSpec.ofChange fnExactStoreSizeSpec)

/-- ITS FALSE NEIGHBOUR: 'it returns false'. Refute it at one input. -/
def fnExactStoreSizeWrong : ChangeSpec := { name := "fnExactStoreSize", fn := fun _ => fun
  | [d] => { results := [.lit (.bool false)], args := [d] }
  | _ => none }
def FnExactStoreSizeWrongFalsely : Prop := fnExactStoreSizeRow.holds Tryd.pinned (OpenSpec.ofChange fnExactStoreSizeWrong)

/- THE SECOND FORM. 'bulk': how many values and letters a reading holds, each counted each time it is reached (what is shared counts as often as it is met; a slice's spare places count too). A statement '..UptoSaid' is the law's where the arguments, and the package variables that the reading takes, are together of bulk at most 1048576: NARROWER than '..Said'. Prove '..Said' where nothing that the law and all that it calls make is longer than what came in: it says more and counts as full. Else prove '..UptoSaid'. A law counts once. -/
mutual
def uptoBulk {H : Type} : DataW H → Nat
  | .lit (.string bytes) => bytes.length + 1
  | .lit _ => 1
  | .nil => 1
  | .ptr d => uptoBulk d + 1
  | .slice elems spare => uptoBulkAll elems + uptoBulkAll spare + 1
  | .agg parts => uptoBulkAll parts + 1
  | .iface _ d => uptoBulk d + 1
  | .map entries => uptoBulkEntries entries + 1
  | .held _ => 1
def uptoBulkAll {H : Type} : List (DataW H) → Nat
  | [] => 0
  | d :: r => uptoBulk d + uptoBulkAll r
def uptoBulkEntries {H : Type} : List (Lit × DataW H) → Nat
  | [] => 0
  | x :: r => uptoBulkEntry x + uptoBulkEntries r
def uptoBulkEntry {H : Type} : Lit × DataW H → Nat
  | (.string bytes, d) => bytes.length + uptoBulk d + 1
  | (_, d) => uptoBulk d + 1
 end
def uptoSmall : (H : Type) → List (DataW H) → Bool := fun _ ds => decide (uptoBulkAll ds ≤ 1048576)
def OpenSpec.upto (s : _root_.Go.ChangeSpec) : _root_.Go.OpenSpec := { _root_.Go.OpenSpec.ofChange s with cond := some uptoSmall }

/-- 'laws.FnExactFormatNode', WHERE WHAT IT READS IS OF BULK AT MOST 1048576: true; the input reads as it did. -/
def fnExactFormatNodeUptoRow : OpenClaim := { program := "ytoedpagdklagdaadoor", sum := "30466d9c412fa395e50630782ee41a72f73ce59fd657f0f65b9be62ffbe6dcf9", func := "loop.example/resourcestore/laws.FnExactFormatNode", spec := "fnExactFormatNode", inPlace := ["internal/abi.NoEscape"], recurses := true, named := ["internal/strconv.uint64pow10", "math/bits.deBruijn32tab", "math/bits.deBruijn64tab"], loops := true, apart := false, laid := [("math/bits.deBruijn32tab", laid_math_bits_deBruijn32tab), ("math/bits.deBruijn64tab", laid_math_bits_deBruijn64tab), ("internal/strconv.uint64pow10", laid_internal_strconv_uint64pow10)], narrowed := true }
def FnExactFormatNodeUptoSaid : Prop := fnExactFormatNodeUptoRow.holds Tryd.pinned (OpenSpec.upto fnExactFormatNodeSpec)

/-- 'laws.FnExactTextSize', WHERE WHAT IT READS IS OF BULK AT MOST 1048576: true; the input reads as it did. -/
def fnExactTextSizeUptoRow : OpenClaim := { program := "ytoedpagdklagdaadoor", sum := "30466d9c412fa395e50630782ee41a72f73ce59fd657f0f65b9be62ffbe6dcf9", func := "loop.example/resourcestore/laws.FnExactTextSize", spec := "fnExactTextSize", inPlace := ["internal/abi.NoEscape"], recurses := true, named := ["internal/strconv.uint64pow10", "math/bits.deBruijn32tab", "math/bits.deBruijn64tab"], loops := true, apart := false, laid := [("math/bits.deBruijn32tab", laid_math_bits_deBruijn32tab), ("math/bits.deBruijn64tab", laid_math_bits_deBruijn64tab), ("internal/strconv.uint64pow10", laid_internal_strconv_uint64pow10)], narrowed := true }
def FnExactTextSizeUptoSaid : Prop := fnExactTextSizeUptoRow.holds Tryd.pinned (OpenSpec.upto fnExactTextSizeSpec)

/-- 'laws.FnValidNode', WHERE WHAT IT READS IS OF BULK AT MOST 1048576: true; the input reads as it did. -/
def fnValidNodeUptoRow : OpenClaim := { program := "ytoedpagdklagdaadoor", sum := "30466d9c412fa395e50630782ee41a72f73ce59fd657f0f65b9be62ffbe6dcf9", func := "loop.example/resourcestore/laws.FnValidNode", spec := "fnValidNode", inPlace := ["internal/abi.NoEscape"], recurses := true, named := ["internal/strconv.uint64pow10", "math/bits.deBruijn32tab", "math/bits.deBruijn64tab"], apart := false, laid := [("math/bits.deBruijn32tab", laid_math_bits_deBruijn32tab), ("math/bits.deBruijn64tab", laid_math_bits_deBruijn64tab), ("internal/strconv.uint64pow10", laid_internal_strconv_uint64pow10)], narrowed := true }
def FnValidNodeUptoSaid : Prop := fnValidNodeUptoRow.holds Tryd.pinned (OpenSpec.upto fnValidNodeSpec)

/-- 'laws.FnExactTagOf', WHERE WHAT IT READS IS OF BULK AT MOST 1048576: true; the input reads as it did. -/
def fnExactTagOfUptoRow : OpenClaim := { program := "ytoedpagdklagdaadoor", sum := "30466d9c412fa395e50630782ee41a72f73ce59fd657f0f65b9be62ffbe6dcf9", func := "loop.example/resourcestore/laws.FnExactTagOf", spec := "fnExactTagOf", inPlace := ["internal/abi.NoEscape"], recurses := true, named := ["internal/strconv.uint64pow10", "math/bits.deBruijn32tab", "math/bits.deBruijn64tab"], loops := true, apart := false, laid := [("math/bits.deBruijn32tab", laid_math_bits_deBruijn32tab), ("math/bits.deBruijn64tab", laid_math_bits_deBruijn64tab), ("internal/strconv.uint64pow10", laid_internal_strconv_uint64pow10)], narrowed := true }
def FnExactTagOfUptoSaid : Prop := fnExactTagOfUptoRow.holds Tryd.pinned (OpenSpec.upto fnExactTagOfSpec)

/-- 'laws.FnNodeTextParts', WHERE WHAT IT READS IS OF BULK AT MOST 1048576: true; the input reads as it did. -/
def fnNodeTextPartsUptoRow : OpenClaim := { program := "ytoedpagdklagdaadoor", sum := "30466d9c412fa395e50630782ee41a72f73ce59fd657f0f65b9be62ffbe6dcf9", func := "loop.example/resourcestore/laws.FnNodeTextParts", spec := "fnNodeTextParts", inPlace := ["internal/abi.NoEscape"], recurses := true, named := ["internal/strconv.uint64pow10", "math/bits.deBruijn32tab", "math/bits.deBruijn64tab"], apart := false, laid := [("math/bits.deBruijn32tab", laid_math_bits_deBruijn32tab), ("math/bits.deBruijn64tab", laid_math_bits_deBruijn64tab), ("internal/strconv.uint64pow10", laid_internal_strconv_uint64pow10)], narrowed := true }
def FnNodeTextPartsUptoSaid : Prop := fnNodeTextPartsUptoRow.holds Tryd.pinned (OpenSpec.upto fnNodeTextPartsSpec)

/-- 'laws.FnTextSize', WHERE WHAT IT READS IS OF BULK AT MOST 1048576: true; the input reads as it did. -/
def fnTextSizeUptoRow : OpenClaim := { program := "ytoedpagdklagdaadoor", sum := "30466d9c412fa395e50630782ee41a72f73ce59fd657f0f65b9be62ffbe6dcf9", func := "loop.example/resourcestore/laws.FnTextSize", spec := "fnTextSize", inPlace := ["internal/abi.NoEscape"], recurses := true, named := ["internal/strconv.uint64pow10", "math/bits.deBruijn32tab", "math/bits.deBruijn64tab"], apart := false, laid := [("math/bits.deBruijn32tab", laid_math_bits_deBruijn32tab), ("math/bits.deBruijn64tab", laid_math_bits_deBruijn64tab), ("internal/strconv.uint64pow10", laid_internal_strconv_uint64pow10)], narrowed := true }
def FnTextSizeUptoSaid : Prop := fnTextSizeUptoRow.holds Tryd.pinned (OpenSpec.upto fnTextSizeSpec)

/-- 'laws.FnTagOfChange', WHERE WHAT IT READS IS OF BULK AT MOST 1048576: true; the input reads as it did. -/
def fnTagOfChangeUptoRow : OpenClaim := { program := "ytoedpagdklagdaadoor", sum := "30466d9c412fa395e50630782ee41a72f73ce59fd657f0f65b9be62ffbe6dcf9", func := "loop.example/resourcestore/laws.FnTagOfChange", spec := "fnTagOfChange", inPlace := ["internal/abi.NoEscape"], recurses := true, named := ["internal/strconv.uint64pow10", "math/bits.deBruijn32tab", "math/bits.deBruijn64tab"], apart := false, laid := [("math/bits.deBruijn32tab", laid_math_bits_deBruijn32tab), ("math/bits.deBruijn64tab", laid_math_bits_deBruijn64tab), ("internal/strconv.uint64pow10", laid_internal_strconv_uint64pow10)], narrowed := true }
def FnTagOfChangeUptoSaid : Prop := fnTagOfChangeUptoRow.holds Tryd.pinned (OpenSpec.upto fnTagOfChangeSpec)

/-- 'laws.FnExactStoreSize', WHERE WHAT IT READS IS OF BULK AT MOST 1048576: true; the input reads as it did. -/
def fnExactStoreSizeUptoRow : OpenClaim := { program := "ytoedpagdklagdaadoor", sum := "30466d9c412fa395e50630782ee41a72f73ce59fd657f0f65b9be62ffbe6dcf9", func := "loop.example/resourcestore/laws.FnExactStoreSize", spec := "fnExactStoreSize", inPlace := ["internal/abi.NoEscape"], recurses := true, named := ["internal/strconv.uint64pow10", "math/bits.deBruijn32tab", "math/bits.deBruijn64tab"], loops := true, apart := false, laid := [("math/bits.deBruijn32tab", laid_math_bits_deBruijn32tab), ("math/bits.deBruijn64tab", laid_math_bits_deBruijn64tab), ("internal/strconv.uint64pow10", laid_internal_strconv_uint64pow10)], narrowed := true }
def FnExactStoreSizeUptoSaid : Prop := fnExactStoreSizeUptoRow.holds Tryd.pinned (OpenSpec.upto fnExactStoreSizeSpec)

end Rows
end Go.Proofs.YtoedpagdklagdaaDoor
