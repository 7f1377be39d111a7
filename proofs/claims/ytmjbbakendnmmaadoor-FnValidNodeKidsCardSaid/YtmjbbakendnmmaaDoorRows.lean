/-
  NARROWER THAN 'FOR EVERY INPUT', by the rows' own cells (each row's printed sentence says how): FnAllPaths: laid · FnExactAllPaths: loops, laid · FnAllPathsDepth: laid · FnValidNodeKids: laid · FnExactNodeAt: loops, laid · FnNodeAt: laid · FnExactMatchFilter: loops, laid · FnNodeAtAll: laid.
  DERIVED. THE GIVEN ROWS OF THIS SEAT. 8 by the template 'for every input the law returns true; each argument reads behind the call as it read before'; 0 by the template 'total and deterministic' (their statements: YtmjbbakendnmmaaDoorTotals.lean).
  GIVEN WITH THE SEED: the statements are not yours to turn. If you find one false, say at which input.
  Laid BY PROGRAM, IN A SANDBOX (cutbox-rows.mjs): the forced cells as the released guide's own fill.sh prints them over the translation 7b3af003bde652ef… (all of the seat's roots in one cut). By AI agents, Wed Nov 11 2026. No macro, syntax, notation, axiom, sorry.
-/
import Derived.Test.YtmjbbakendnmmaaDoorChecked
import GoSem.Claim
import GoSem.ClaimJoined
import GoSem.ClaimMapViews
import Derived.JoinedTies
import Derived.KernelRfl
namespace Go.Proofs.YtmjbbakendnmmaaDoor
/- THE CELL 'sum', in the pinned program and in every row, IS THE sha256 OF THE DUMP (.gsa) THAT YtmjbbakendnmmaaDoorProg.lean LOADS. Nothing in Lean hashes anything: it is a label: what it is worth is what the hold of that sum in a sandbox is worth. -/
noncomputable def Tryd.pinned : Pinned := { name := "ytmjbbakendnmmaadoor", sum := "7b3af003bde652ef20e1804287d593e4e142bf5e5f2be0bfe4dd7f6e1f1e708f", checked := Tryd.checked }
namespace Rows
def none {H : Type} : Left H := { results := [], args := [] }

/- WHAT THE LISTED PACKAGE-LEVEL VARIABLES READ AS WHEN THE CALL BEGINS. Each datum BY PROGRAM (the guide's laid-datum.mjs) off the statement by which the dump's own 'gosem.cut.vars' lays the variable. In a bare row this is a premise. The card (YtmjbbakendnmmaaDoorCards.lean) ties it to the program's text. -/
def laid_math_bits_deBruijn32tab {H : Type} : DataW H := .agg [.lit (.int .u8 0), .lit (.int .u8 1), .lit (.int .u8 28), .lit (.int .u8 2), .lit (.int .u8 29), .lit (.int .u8 14), .lit (.int .u8 24), .lit (.int .u8 3), .lit (.int .u8 30), .lit (.int .u8 22), .lit (.int .u8 20), .lit (.int .u8 15), .lit (.int .u8 25), .lit (.int .u8 17), .lit (.int .u8 4), .lit (.int .u8 8), .lit (.int .u8 31), .lit (.int .u8 27), .lit (.int .u8 13), .lit (.int .u8 23), .lit (.int .u8 21), .lit (.int .u8 19), .lit (.int .u8 16), .lit (.int .u8 7), .lit (.int .u8 26), .lit (.int .u8 12), .lit (.int .u8 18), .lit (.int .u8 6), .lit (.int .u8 11), .lit (.int .u8 5), .lit (.int .u8 10), .lit (.int .u8 9)]
def laid_math_bits_deBruijn64tab {H : Type} : DataW H := .agg [.lit (.int .u8 0), .lit (.int .u8 1), .lit (.int .u8 56), .lit (.int .u8 2), .lit (.int .u8 57), .lit (.int .u8 49), .lit (.int .u8 28), .lit (.int .u8 3), .lit (.int .u8 61), .lit (.int .u8 58), .lit (.int .u8 42), .lit (.int .u8 50), .lit (.int .u8 38), .lit (.int .u8 29), .lit (.int .u8 17), .lit (.int .u8 4), .lit (.int .u8 62), .lit (.int .u8 47), .lit (.int .u8 59), .lit (.int .u8 36), .lit (.int .u8 45), .lit (.int .u8 43), .lit (.int .u8 51), .lit (.int .u8 22), .lit (.int .u8 53), .lit (.int .u8 39), .lit (.int .u8 33), .lit (.int .u8 30), .lit (.int .u8 24), .lit (.int .u8 18), .lit (.int .u8 12), .lit (.int .u8 5), .lit (.int .u8 63), .lit (.int .u8 55), .lit (.int .u8 48), .lit (.int .u8 27), .lit (.int .u8 60), .lit (.int .u8 41), .lit (.int .u8 37), .lit (.int .u8 16), .lit (.int .u8 46), .lit (.int .u8 35), .lit (.int .u8 44), .lit (.int .u8 21), .lit (.int .u8 52), .lit (.int .u8 32), .lit (.int .u8 23), .lit (.int .u8 11), .lit (.int .u8 54), .lit (.int .u8 26), .lit (.int .u8 40), .lit (.int .u8 15), .lit (.int .u8 34), .lit (.int .u8 20), .lit (.int .u8 31), .lit (.int .u8 10), .lit (.int .u8 25), .lit (.int .u8 14), .lit (.int .u8 19), .lit (.int .u8 9), .lit (.int .u8 13), .lit (.int .u8 8), .lit (.int .u8 7), .lit (.int .u8 6)]
def laid_internal_strconv_uint64pow10 {H : Type} : DataW H := .agg [.lit (.int .u64 1), .lit (.int .u64 10), .lit (.int .u64 100), .lit (.int .u64 1000), .lit (.int .u64 10000), .lit (.int .u64 100000), .lit (.int .u64 1000000), .lit (.int .u64 10000000), .lit (.int .u64 100000000), .lit (.int .u64 1000000000), .lit (.int .u64 10000000000), .lit (.int .u64 100000000000), .lit (.int .u64 1000000000000), .lit (.int .u64 10000000000000), .lit (.int .u64 100000000000000), .lit (.int .u64 1000000000000000), .lit (.int .u64 10000000000000000), .lit (.int .u64 100000000000000000), .lit (.int .u64 1000000000000000000), .lit (.int .u64 10000000000000000000)]

/-- 'laws.FnAllPaths': WHATEVER THE INPUT: true; the input reads as it did. -/
def fnAllPathsSpec : ChangeSpec := { name := "fnAllPaths", fn := fun _ => fun
  | [d] => { results := [.lit (.bool true)], args := [d] }
  | _ => none }
def fnAllPathsRow : OpenClaim := { program := "ytmjbbakendnmmaadoor", sum := "7b3af003bde652ef20e1804287d593e4e142bf5e5f2be0bfe4dd7f6e1f1e708f", func := "loop.example/resourcestore/laws.FnAllPaths", spec := "fnAllPaths", recurses := true, named := ["internal/strconv.uint64pow10", "math/bits.deBruijn32tab", "math/bits.deBruijn64tab"], apart := false, laid := [("math/bits.deBruijn32tab", laid_math_bits_deBruijn32tab), ("math/bits.deBruijn64tab", laid_math_bits_deBruijn64tab), ("internal/strconv.uint64pow10", laid_internal_strconv_uint64pow10)] }
def FnAllPathsSaid : Prop := fnAllPathsRow.holds Tryd.pinned (OpenSpec.ofChange fnAllPathsSpec)

/-- ITS FALSE NEIGHBOUR: 'it returns false'. Refute it at one input. -/
def fnAllPathsWrong : ChangeSpec := { name := "fnAllPaths", fn := fun _ => fun
  | [d] => { results := [.lit (.bool false)], args := [d] }
  | _ => none }
def FnAllPathsWrongFalsely : Prop := fnAllPathsRow.holds Tryd.pinned (OpenSpec.ofChange fnAllPathsWrong)

/-- 'laws.FnExactAllPaths': WHATEVER THE INPUT: true; the input reads as it did. -/
def fnExactAllPathsSpec : ChangeSpec := { name := "fnExactAllPaths", fn := fun _ => fun
  | [d] => { results := [.lit (.bool true)], args := [d] }
  | _ => none }
def fnExactAllPathsRow : OpenClaim := { program := "ytmjbbakendnmmaadoor", sum := "7b3af003bde652ef20e1804287d593e4e142bf5e5f2be0bfe4dd7f6e1f1e708f", func := "loop.example/resourcestore/laws.FnExactAllPaths", spec := "fnExactAllPaths", recurses := true, named := ["internal/strconv.uint64pow10", "math/bits.deBruijn32tab", "math/bits.deBruijn64tab"], loops := true, apart := false, laid := [("math/bits.deBruijn32tab", laid_math_bits_deBruijn32tab), ("math/bits.deBruijn64tab", laid_math_bits_deBruijn64tab), ("internal/strconv.uint64pow10", laid_internal_strconv_uint64pow10)] }
def FnExactAllPathsSaid : Prop := fnExactAllPathsRow.holds Tryd.pinned (OpenSpec.ofChange fnExactAllPathsSpec)

/-- ITS FALSE NEIGHBOUR: 'it returns false'. Refute it at one input. -/
def fnExactAllPathsWrong : ChangeSpec := { name := "fnExactAllPaths", fn := fun _ => fun
  | [d] => { results := [.lit (.bool false)], args := [d] }
  | _ => none }
def FnExactAllPathsWrongFalsely : Prop := fnExactAllPathsRow.holds Tryd.pinned (OpenSpec.ofChange fnExactAllPathsWrong)

/-- 'laws.FnAllPathsDepth': WHATEVER THE INPUT: true; the input reads as it did. -/
def fnAllPathsDepthSpec : ChangeSpec := { name := "fnAllPathsDepth", fn := fun _ => fun
  | [d] => { results := [.lit (.bool true)], args := [d] }
  | _ => none }
def fnAllPathsDepthRow : OpenClaim := { program := "ytmjbbakendnmmaadoor", sum := "7b3af003bde652ef20e1804287d593e4e142bf5e5f2be0bfe4dd7f6e1f1e708f", func := "loop.example/resourcestore/laws.FnAllPathsDepth", spec := "fnAllPathsDepth", recurses := true, named := ["internal/strconv.uint64pow10", "math/bits.deBruijn32tab", "math/bits.deBruijn64tab"], apart := false, laid := [("math/bits.deBruijn32tab", laid_math_bits_deBruijn32tab), ("math/bits.deBruijn64tab", laid_math_bits_deBruijn64tab), ("internal/strconv.uint64pow10", laid_internal_strconv_uint64pow10)] }
def FnAllPathsDepthSaid : Prop := fnAllPathsDepthRow.holds Tryd.pinned (OpenSpec.ofChange fnAllPathsDepthSpec)

/-- ITS FALSE NEIGHBOUR: 'it returns false'. Refute it at one input. -/
def fnAllPathsDepthWrong : ChangeSpec := { name := "fnAllPathsDepth", fn := fun _ => fun
  | [d] => { results := [.lit (.bool false)], args := [d] }
  | _ => none }
def FnAllPathsDepthWrongFalsely : Prop := fnAllPathsDepthRow.holds Tryd.pinned (OpenSpec.ofChange fnAllPathsDepthWrong)

/-- 'laws.FnValidNodeKids': WHATEVER THE INPUT: true; the input reads as it did. -/
def fnValidNodeKidsSpec : ChangeSpec := { name := "fnValidNodeKids", fn := fun _ => fun
  | [d] => { results := [.lit (.bool true)], args := [d] }
  | _ => none }
def fnValidNodeKidsRow : OpenClaim := { program := "ytmjbbakendnmmaadoor", sum := "7b3af003bde652ef20e1804287d593e4e142bf5e5f2be0bfe4dd7f6e1f1e708f", func := "loop.example/resourcestore/laws.FnValidNodeKids", spec := "fnValidNodeKids", recurses := true, named := ["internal/strconv.uint64pow10", "math/bits.deBruijn32tab", "math/bits.deBruijn64tab"], apart := false, laid := [("math/bits.deBruijn32tab", laid_math_bits_deBruijn32tab), ("math/bits.deBruijn64tab", laid_math_bits_deBruijn64tab), ("internal/strconv.uint64pow10", laid_internal_strconv_uint64pow10)] }
def FnValidNodeKidsSaid : Prop := fnValidNodeKidsRow.holds Tryd.pinned (OpenSpec.ofChange fnValidNodeKidsSpec)

/-- ITS FALSE NEIGHBOUR: 'it returns false'. Refute it at one input. -/
def fnValidNodeKidsWrong : ChangeSpec := { name := "fnValidNodeKids", fn := fun _ => fun
  | [d] => { results := [.lit (.bool false)], args := [d] }
  | _ => none }
def FnValidNodeKidsWrongFalsely : Prop := fnValidNodeKidsRow.holds Tryd.pinned (OpenSpec.ofChange fnValidNodeKidsWrong)

/-- 'laws.FnExactNodeAt': WHATEVER THE INPUT: true; the input reads as it did. -/
def fnExactNodeAtSpec : ChangeSpec := { name := "fnExactNodeAt", fn := fun _ => fun
  | [d1, d2] => { results := [.lit (.bool true)], args := [d1, d2] }
  | _ => none }
def fnExactNodeAtRow : OpenClaim := { program := "ytmjbbakendnmmaadoor", sum := "7b3af003bde652ef20e1804287d593e4e142bf5e5f2be0bfe4dd7f6e1f1e708f", func := "loop.example/resourcestore/laws.FnExactNodeAt", spec := "fnExactNodeAt", recurses := true, named := ["internal/strconv.uint64pow10", "math/bits.deBruijn32tab", "math/bits.deBruijn64tab"], loops := true, apart := false, laid := [("math/bits.deBruijn32tab", laid_math_bits_deBruijn32tab), ("math/bits.deBruijn64tab", laid_math_bits_deBruijn64tab), ("internal/strconv.uint64pow10", laid_internal_strconv_uint64pow10)] }
def FnExactNodeAtSaid : Prop := fnExactNodeAtRow.holds Tryd.pinned (OpenSpec.ofChange fnExactNodeAtSpec)

/-- ITS FALSE NEIGHBOUR: 'it returns false'. Refute it at one input. -/
def fnExactNodeAtWrong : ChangeSpec := { name := "fnExactNodeAt", fn := fun _ => fun
  | [d1, d2] => { results := [.lit (.bool false)], args := [d1, d2] }
  | _ => none }
def FnExactNodeAtWrongFalsely : Prop := fnExactNodeAtRow.holds Tryd.pinned (OpenSpec.ofChange fnExactNodeAtWrong)

/-- 'laws.FnNodeAt': WHATEVER THE INPUT: true; the input reads as it did. -/
def fnNodeAtSpec : ChangeSpec := { name := "fnNodeAt", fn := fun _ => fun
  | [d] => { results := [.lit (.bool true)], args := [d] }
  | _ => none }
def fnNodeAtRow : OpenClaim := { program := "ytmjbbakendnmmaadoor", sum := "7b3af003bde652ef20e1804287d593e4e142bf5e5f2be0bfe4dd7f6e1f1e708f", func := "loop.example/resourcestore/laws.FnNodeAt", spec := "fnNodeAt", recurses := true, named := ["internal/strconv.uint64pow10", "math/bits.deBruijn32tab", "math/bits.deBruijn64tab"], apart := false, laid := [("math/bits.deBruijn32tab", laid_math_bits_deBruijn32tab), ("math/bits.deBruijn64tab", laid_math_bits_deBruijn64tab), ("internal/strconv.uint64pow10", laid_internal_strconv_uint64pow10)] }
def FnNodeAtSaid : Prop := fnNodeAtRow.holds Tryd.pinned (OpenSpec.ofChange fnNodeAtSpec)

/-- ITS FALSE NEIGHBOUR: 'it returns false'. Refute it at one input. -/
def fnNodeAtWrong : ChangeSpec := { name := "fnNodeAt", fn := fun _ => fun
  | [d] => { results := [.lit (.bool false)], args := [d] }
  | _ => none }
def FnNodeAtWrongFalsely : Prop := fnNodeAtRow.holds Tryd.pinned (OpenSpec.ofChange fnNodeAtWrong)

/-- 'laws.FnExactMatchFilter': WHATEVER THE INPUT: true; the input reads as it did. -/
def fnExactMatchFilterSpec : ChangeSpec := { name := "fnExactMatchFilter", fn := fun _ => fun
  | [d1, d2] => { results := [.lit (.bool true)], args := [d1, d2] }
  | _ => none }
def fnExactMatchFilterRow : OpenClaim := { program := "ytmjbbakendnmmaadoor", sum := "7b3af003bde652ef20e1804287d593e4e142bf5e5f2be0bfe4dd7f6e1f1e708f", func := "loop.example/resourcestore/laws.FnExactMatchFilter", spec := "fnExactMatchFilter", inPlace := ["internal/bytealg.abigen_runtime_cmpstring"], recurses := true, named := ["internal/strconv.uint64pow10", "math/bits.deBruijn32tab", "math/bits.deBruijn64tab"], loops := true, apart := false, laid := [("math/bits.deBruijn32tab", laid_math_bits_deBruijn32tab), ("math/bits.deBruijn64tab", laid_math_bits_deBruijn64tab), ("internal/strconv.uint64pow10", laid_internal_strconv_uint64pow10)] }
def FnExactMatchFilterSaid : Prop := fnExactMatchFilterRow.holds Tryd.pinned (OpenSpec.ofChange fnExactMatchFilterSpec)

/-- ITS FALSE NEIGHBOUR: 'it returns false'. Refute it at one input. -/
def fnExactMatchFilterWrong : ChangeSpec := { name := "fnExactMatchFilter", fn := fun _ => fun
  | [d1, d2] => { results := [.lit (.bool false)], args := [d1, d2] }
  | _ => none }
def FnExactMatchFilterWrongFalsely : Prop := fnExactMatchFilterRow.holds Tryd.pinned (OpenSpec.ofChange fnExactMatchFilterWrong)

/-- 'laws.FnNodeAtAll': WHATEVER THE INPUT: true; the input reads as it did. -/
def fnNodeAtAllSpec : ChangeSpec := { name := "fnNodeAtAll", fn := fun _ => fun
  | [d] => { results := [.lit (.bool true)], args := [d] }
  | _ => none }
def fnNodeAtAllRow : OpenClaim := { program := "ytmjbbakendnmmaadoor", sum := "7b3af003bde652ef20e1804287d593e4e142bf5e5f2be0bfe4dd7f6e1f1e708f", func := "loop.example/resourcestore/laws.FnNodeAtAll", spec := "fnNodeAtAll", recurses := true, named := ["internal/strconv.uint64pow10", "math/bits.deBruijn32tab", "math/bits.deBruijn64tab"], apart := false, laid := [("math/bits.deBruijn32tab", laid_math_bits_deBruijn32tab), ("math/bits.deBruijn64tab", laid_math_bits_deBruijn64tab), ("internal/strconv.uint64pow10", laid_internal_strconv_uint64pow10)] }
def FnNodeAtAllSaid : Prop := fnNodeAtAllRow.holds Tryd.pinned (OpenSpec.ofChange fnNodeAtAllSpec)

/-- ITS FALSE NEIGHBOUR: 'it returns false'. Refute it at one input. -/
def fnNodeAtAllWrong : ChangeSpec := { name := "fnNodeAtAll", fn := fun _ => fun
  | [d] => { results := [.lit (.bool false)], args := [d] }
  | _ => none }
def FnNodeAtAllWrongFalsely : Prop := fnNodeAtAllRow.holds Tryd.pinned (OpenSpec.ofChange fnNodeAtAllWrong)

/- THE SECOND FORM. 'bulk': how many values and letters a reading holds, each counted each time it is reached (what is shared counts as often as it is met; a slice's spare places count too). A statement '..UptoSaid' is the law's where the arguments, and the package variables that the reading takes, are together of bulk at most 1048576: NARROWER than '..Said'. Prove '..Said' where nothing that the law and all that it calls make is longer than what came in: it says more and counts as full. Else prove '..UptoSaid'. A law counts once. -/
mutual
def uptoBulk {H : Type} : DataW H → Nat
  | .lit (.string bytes) => bytes.length + 1
  | .lit _ => 1
  | .nil => 1
  | .ptr d => uptoBulk d + 1
  | .slice elems spare => uptoBulkAll elems + uptoBulkAll spare + 1
  | .agg parts => uptoBulkAll parts + 1
  | .iface _ d => uptoBulk d + 1
  | .map entries => uptoBulkEntries entries + 1
  | .held _ => 1
def uptoBulkAll {H : Type} : List (DataW H) → Nat
  | [] => 0
  | d :: r => uptoBulk d + uptoBulkAll r
def uptoBulkEntries {H : Type} : List (Lit × DataW H) → Nat
  | [] => 0
  | x :: r => uptoBulkEntry x + uptoBulkEntries r
def uptoBulkEntry {H : Type} : Lit × DataW H → Nat
  | (.string bytes, d) => bytes.length + uptoBulk d + 1
  | (_, d) => uptoBulk d + 1
 end
def uptoSmall : (H : Type) → List (DataW H) → Bool := fun _ ds => decide (uptoBulkAll ds ≤ 1048576)
def OpenSpec.upto (s : _root_.Go.ChangeSpec) : _root_.Go.OpenSpec := { _root_.Go.OpenSpec.ofChange s with cond := some uptoSmall }

/-- 'laws.FnAllPaths', WHERE WHAT IT READS IS OF BULK AT MOST 1048576: true; the input reads as it did. -/
def fnAllPathsUptoRow : OpenClaim := { program := "ytmjbbakendnmmaadoor", sum := "7b3af003bde652ef20e1804287d593e4e142bf5e5f2be0bfe4dd7f6e1f1e708f", func := "loop.example/resourcestore/laws.FnAllPaths", spec := "fnAllPaths", recurses := true, named := ["internal/strconv.uint64pow10", "math/bits.deBruijn32tab", "math/bits.deBruijn64tab"], apart := false, laid := [("math/bits.deBruijn32tab", laid_math_bits_deBruijn32tab), ("math/bits.deBruijn64tab", laid_math_bits_deBruijn64tab), ("internal/strconv.uint64pow10", laid_internal_strconv_uint64pow10)], narrowed := true }
def FnAllPathsUptoSaid : Prop := fnAllPathsUptoRow.holds Tryd.pinned (OpenSpec.upto fnAllPathsSpec)

/-- 'laws.FnExactAllPaths', WHERE WHAT IT READS IS OF BULK AT MOST 1048576: true; the input reads as it did. -/
def fnExactAllPathsUptoRow : OpenClaim := { program := "ytmjbbakendnmmaadoor", sum := "7b3af003bde652ef20e1804287d593e4e142bf5e5f2be0bfe4dd7f6e1f1e708f", func := "loop.example/resourcestore/laws.FnExactAllPaths", spec := "fnExactAllPaths", recurses := true, named := ["internal/strconv.uint64pow10", "math/bits.deBruijn32tab", "math/bits.deBruijn64tab"], loops := true, apart := false, laid := [("math/bits.deBruijn32tab", laid_math_bits_deBruijn32tab), ("math/bits.deBruijn64tab", laid_math_bits_deBruijn64tab), ("internal/strconv.uint64pow10", laid_internal_strconv_uint64pow10)], narrowed := true }
def FnExactAllPathsUptoSaid : Prop := fnExactAllPathsUptoRow.holds Tryd.pinned (OpenSpec.upto fnExactAllPathsSpec)

/-- 'laws.FnAllPathsDepth', WHERE WHAT IT READS IS OF BULK AT MOST 1048576: true; the input reads as it did. -/
def fnAllPathsDepthUptoRow : OpenClaim := { program := "ytmjbbakendnmmaadoor", sum := "7b3af003bde652ef20e1804287d593e4e142bf5e5f2be0bfe4dd7f6e1f1e708f", func := "loop.example/resourcestore/laws.FnAllPathsDepth", spec := "fnAllPathsDepth", recurses := true, named := ["internal/strconv.uint64pow10", "math/bits.deBruijn32tab", "math/bits.deBruijn64tab"], apart := false, laid := [("math/bits.deBruijn32tab", laid_math_bits_deBruijn32tab), ("math/bits.deBruijn64tab", laid_math_bits_deBruijn64tab), ("internal/strconv.uint64pow10", laid_internal_strconv_uint64pow10)], narrowed := true }
def FnAllPathsDepthUptoSaid : Prop := fnAllPathsDepthUptoRow.holds Tryd.pinned (OpenSpec.upto fnAllPathsDepthSpec)

/-- 'laws.FnValidNodeKids', WHERE WHAT IT READS IS OF BULK AT MOST 1048576: true; the input reads as it did. -/
def fnValidNodeKidsUptoRow : OpenClaim := { program := "ytmjbbakendnmmaadoor", sum := "7b3af003bde652ef20e1804287d593e4e142bf5e5f2be0bfe4dd7f6e1f1e708f", func := "loop.example/resourcestore/laws.FnValidNodeKids", spec := "fnValidNodeKids", recurses := true, named := ["internal/strconv.uint64pow10", "math/bits.deBruijn32tab", "math/bits.deBruijn64tab"], apart := false, laid := [("math/bits.deBruijn32tab", laid_math_bits_deBruijn32tab), ("math/bits.deBruijn64tab", laid_math_bits_deBruijn64tab), ("internal/strconv.uint64pow10", laid_internal_strconv_uint64pow10)], narrowed := true }
def FnValidNodeKidsUptoSaid : Prop := fnValidNodeKidsUptoRow.holds Tryd.pinned (OpenSpec.upto fnValidNodeKidsSpec)

/-- 'laws.FnExactNodeAt', WHERE WHAT IT READS IS OF BULK AT MOST 1048576: true; the input reads as it did. -/
def fnExactNodeAtUptoRow : OpenClaim := { program := "ytmjbbakendnmmaadoor", sum := "7b3af003bde652ef20e1804287d593e4e142bf5e5f2be0bfe4dd7f6e1f1e708f", func := "loop.example/resourcestore/laws.FnExactNodeAt", spec := "fnExactNodeAt", recurses := true, named := ["internal/strconv.uint64pow10", "math/bits.deBruijn32tab", "math/bits.deBruijn64tab"], loops := true, apart := false, laid := [("math/bits.deBruijn32tab", laid_math_bits_deBruijn32tab), ("math/bits.deBruijn64tab", laid_math_bits_deBruijn64tab), ("internal/strconv.uint64pow10", laid_internal_strconv_uint64pow10)], narrowed := true }
def FnExactNodeAtUptoSaid : Prop := fnExactNodeAtUptoRow.holds Tryd.pinned (OpenSpec.upto fnExactNodeAtSpec)

/-- 'laws.FnNodeAt', WHERE WHAT IT READS IS OF BULK AT MOST 1048576: true; the input reads as it did. -/
def fnNodeAtUptoRow : OpenClaim := { program := "ytmjbbakendnmmaadoor", sum := "7b3af003bde652ef20e1804287d593e4e142bf5e5f2be0bfe4dd7f6e1f1e708f", func := "loop.example/resourcestore/laws.FnNodeAt", spec := "fnNodeAt", recurses := true, named := ["internal/strconv.uint64pow10", "math/bits.deBruijn32tab", "math/bits.deBruijn64tab"], apart := false, laid := [("math/bits.deBruijn32tab", laid_math_bits_deBruijn32tab), ("math/bits.deBruijn64tab", laid_math_bits_deBruijn64tab), ("internal/strconv.uint64pow10", laid_internal_strconv_uint64pow10)], narrowed := true }
def FnNodeAtUptoSaid : Prop := fnNodeAtUptoRow.holds Tryd.pinned (OpenSpec.upto fnNodeAtSpec)

/-- 'laws.FnExactMatchFilter', WHERE WHAT IT READS IS OF BULK AT MOST 1048576: true; the input reads as it did. -/
def fnExactMatchFilterUptoRow : OpenClaim := { program := "ytmjbbakendnmmaadoor", sum := "7b3af003bde652ef20e1804287d593e4e142bf5e5f2be0bfe4dd7f6e1f1e708f", func := "loop.example/resourcestore/laws.FnExactMatchFilter", spec := "fnExactMatchFilter", inPlace := ["internal/bytealg.abigen_runtime_cmpstring"], recurses := true, named := ["internal/strconv.uint64pow10", "math/bits.deBruijn32tab", "math/bits.deBruijn64tab"], loops := true, apart := false, laid := [("math/bits.deBruijn32tab", laid_math_bits_deBruijn32tab), ("math/bits.deBruijn64tab", laid_math_bits_deBruijn64tab), ("internal/strconv.uint64pow10", laid_internal_strconv_uint64pow10)], narrowed := true }
def FnExactMatchFilterUptoSaid : Prop := fnExactMatchFilterUptoRow.holds Tryd.pinned (OpenSpec.upto fnExactMatchFilterSpec)

/-- 'laws.FnNodeAtAll', WHERE WHAT IT READS IS OF BULK AT MOST 1048576: true; the input reads as it did. -/
def fnNodeAtAllUptoRow : OpenClaim := { program := "ytmjbbakendnmmaadoor", sum := "7b3af003bde652ef20e1804287d593e4e142bf5e5f2be0bfe4dd7f6e1f1e708f", func := "loop.example/resourcestore/laws.FnNodeAtAll", spec := "fnNodeAtAll", recurses := true, named := ["internal/strconv.uint64pow10", "math/bits.deBruijn32tab", "math/bits.deBruijn64tab"], apart := false, laid := [("math/bits.deBruijn32tab", laid_math_bits_deBruijn32tab), ("math/bits.deBruijn64tab", laid_math_bits_deBruijn64tab), ("internal/strconv.uint64pow10", laid_internal_strconv_uint64pow10)], narrowed := true }
def FnNodeAtAllUptoSaid : Prop := fnNodeAtAllUptoRow.holds Tryd.pinned (OpenSpec.upto fnNodeAtAllSpec)

end Rows
end Go.Proofs.YtmjbbakendnmmaaDoor
