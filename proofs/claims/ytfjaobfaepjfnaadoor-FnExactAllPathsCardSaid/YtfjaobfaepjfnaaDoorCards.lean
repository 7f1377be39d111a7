/-
  DERIVED. GIVEN WITH THE SEED: THE CARDS: each row of YtfjaobfaepjfnaaDoorRows.lean that lists a variable, with what it lists TIED to the program's text (the seventh form; the later family's looks); each row that meets fmt, with fmt's text TOLD by the authors' own Lean function (tested against real Go, not proved from fmt's source: count such statements apart). THE CARD IS WHAT COUNTS. Prove the row's statement (the work); the ties are given (YtfjaobfaepjfnaaDoorTie.lean); close each card by the builder's one call (the guide's Derived/Test/ToyasCard.lean, 'card_holds'). Laid BY PROGRAM, IN A SANDBOX (cutbox-door.mjs). By AI agents, Wed Nov 11 2026. No macro, syntax, notation, axiom, sorry.
-/
import Derived.Test.YtfjaobfaepjfnaaDoorRows
import GoSem.ClaimSeven
namespace Go.Proofs.YtfjaobfaepjfnaaDoor
namespace Rows

/-- THE TIED CARD OF 'laws.FnShapeOfRemove'. -/
def fnShapeOfRemoveCard : Claim7 := { stood := { row := fnShapeOfRemoveRow, standIns := [], harness := (true, "9badd86699a3b4ddab5185acf5d7bf984ff0e7690c8820907be8a9eb8615d1cb"), looks := false }, kinds := [], alts := [], laidByText := true, laidKinds := [.data, .data, .data], laidTests := true, laidLooks := .later }
def FnShapeOfRemoveCardSaid : Prop := Claim7.holds Tryd.pinned (.plain (OpenSpec.ofChange fnShapeOfRemoveSpec)) fnShapeOfRemoveCard

/-- THE TIED CARD OF 'laws.FnExactAllPaths'. -/
def fnExactAllPathsCard : Claim7 := { stood := { row := fnExactAllPathsRow, standIns := [], harness := (true, "9badd86699a3b4ddab5185acf5d7bf984ff0e7690c8820907be8a9eb8615d1cb"), looks := false }, kinds := [], alts := [], laidByText := true, laidKinds := [.data, .data, .data], laidTests := true, laidLooks := .later }
def FnExactAllPathsCardSaid : Prop := Claim7.holds Tryd.pinned (.plain (OpenSpec.ofChange fnExactAllPathsSpec)) fnExactAllPathsCard

/-- THE TIED CARD OF 'laws.FnExactNodeAt'. -/
def fnExactNodeAtCard : Claim7 := { stood := { row := fnExactNodeAtRow, standIns := [], harness := (true, "9badd86699a3b4ddab5185acf5d7bf984ff0e7690c8820907be8a9eb8615d1cb"), looks := false }, kinds := [], alts := [], laidByText := true, laidKinds := [.data, .data, .data], laidTests := true, laidLooks := .later }
def FnExactNodeAtCardSaid : Prop := Claim7.holds Tryd.pinned (.plain (OpenSpec.ofChange fnExactNodeAtSpec)) fnExactNodeAtCard

/-- THE TIED CARD OF 'laws.FnExactSetNode'. -/
def fnExactSetNodeCard : Claim7 := { stood := { row := fnExactSetNodeRow, standIns := [], harness := (true, "9badd86699a3b4ddab5185acf5d7bf984ff0e7690c8820907be8a9eb8615d1cb"), looks := false }, kinds := [], alts := [], laidByText := true, laidKinds := [.data, .data, .data], laidTests := true, laidLooks := .later }
def FnExactSetNodeCardSaid : Prop := Claim7.holds Tryd.pinned (.plain (OpenSpec.ofChange fnExactSetNodeSpec)) fnExactSetNodeCard

/-- THE TIED CARD OF 'laws.FnSetNodeTwo'. -/
def fnSetNodeTwoCard : Claim7 := { stood := { row := fnSetNodeTwoRow, standIns := [], harness := (true, "9badd86699a3b4ddab5185acf5d7bf984ff0e7690c8820907be8a9eb8615d1cb"), looks := false }, kinds := [], alts := [], laidByText := true, laidKinds := [.data, .data, .data], laidTests := true, laidLooks := .later }
def FnSetNodeTwoCardSaid : Prop := Claim7.holds Tryd.pinned (.plain (OpenSpec.ofChange fnSetNodeTwoSpec)) fnSetNodeTwoCard

/-- THE TIED CARD OF 'laws.FnExactMatchFilter'. -/
def fnExactMatchFilterCard : Claim7 := { stood := { row := fnExactMatchFilterRow, standIns := [], harness := (true, "9badd86699a3b4ddab5185acf5d7bf984ff0e7690c8820907be8a9eb8615d1cb"), looks := false }, kinds := [], alts := [], laidByText := true, laidKinds := [.data, .data, .data], laidTests := true, laidLooks := .later }
def FnExactMatchFilterCardSaid : Prop := Claim7.holds Tryd.pinned (.plain (OpenSpec.ofChange fnExactMatchFilterSpec)) fnExactMatchFilterCard

/-- THE TIED CARD OF 'laws.FnSetNode'. -/
def fnSetNodeCard : Claim7 := { stood := { row := fnSetNodeRow, standIns := [], harness := (true, "9badd86699a3b4ddab5185acf5d7bf984ff0e7690c8820907be8a9eb8615d1cb"), looks := false }, kinds := [], alts := [], laidByText := true, laidKinds := [.data, .data, .data], laidTests := true, laidLooks := .later }
def FnSetNodeCardSaid : Prop := Claim7.holds Tryd.pinned (.plain (OpenSpec.ofChange fnSetNodeSpec)) fnSetNodeCard

/-- THE TIED CARD OF 'laws.FnSetNodeSame'. -/
def fnSetNodeSameCard : Claim7 := { stood := { row := fnSetNodeSameRow, standIns := [], harness := (true, "9badd86699a3b4ddab5185acf5d7bf984ff0e7690c8820907be8a9eb8615d1cb"), looks := false }, kinds := [], alts := [], laidByText := true, laidKinds := [.data, .data, .data], laidTests := true, laidLooks := .later }
def FnSetNodeSameCardSaid : Prop := Claim7.holds Tryd.pinned (.plain (OpenSpec.ofChange fnSetNodeSameSpec)) fnSetNodeSameCard

/-- THE TIED CARD OF 'laws.FnExactDiffSize'. -/
def fnExactDiffSizeCard : Claim7 := { stood := { row := fnExactDiffSizeRow, standIns := [], harness := (true, "9badd86699a3b4ddab5185acf5d7bf984ff0e7690c8820907be8a9eb8615d1cb"), looks := false }, kinds := [], alts := [], laidByText := true, laidKinds := [.data, .data, .data], laidTests := true, laidLooks := .later }
def FnExactDiffSizeCardSaid : Prop := Claim7.holds Tryd.pinned (.plain (OpenSpec.ofChange fnExactDiffSizeSpec)) fnExactDiffSizeCard

/-- THE TIED CARD OF 'laws.FnExactRemoveNode'. -/
def fnExactRemoveNodeCard : Claim7 := { stood := { row := fnExactRemoveNodeRow, standIns := [], harness := (true, "9badd86699a3b4ddab5185acf5d7bf984ff0e7690c8820907be8a9eb8615d1cb"), looks := false }, kinds := [], alts := [], laidByText := true, laidKinds := [.data, .data, .data], laidTests := true, laidLooks := .later }
def FnExactRemoveNodeCardSaid : Prop := Claim7.holds Tryd.pinned (.plain (OpenSpec.ofChange fnExactRemoveNodeSpec)) fnExactRemoveNodeCard

/-- THE SECOND FORM's CARD OF 'laws.FnShapeOfRemove'. -/
def fnShapeOfRemoveUptoCard : Claim7 := { stood := { row := fnShapeOfRemoveUptoRow, standIns := [], harness := (true, "9badd86699a3b4ddab5185acf5d7bf984ff0e7690c8820907be8a9eb8615d1cb"), looks := false }, kinds := [], alts := [], laidByText := true, laidKinds := [.data, .data, .data], laidTests := true, laidLooks := .later }
def FnShapeOfRemoveUptoCardSaid : Prop := Claim7.holds Tryd.pinned (.plain (OpenSpec.upto fnShapeOfRemoveSpec)) fnShapeOfRemoveUptoCard

/-- THE SECOND FORM's CARD OF 'laws.FnExactAllPaths'. -/
def fnExactAllPathsUptoCard : Claim7 := { stood := { row := fnExactAllPathsUptoRow, standIns := [], harness := (true, "9badd86699a3b4ddab5185acf5d7bf984ff0e7690c8820907be8a9eb8615d1cb"), looks := false }, kinds := [], alts := [], laidByText := true, laidKinds := [.data, .data, .data], laidTests := true, laidLooks := .later }
def FnExactAllPathsUptoCardSaid : Prop := Claim7.holds Tryd.pinned (.plain (OpenSpec.upto fnExactAllPathsSpec)) fnExactAllPathsUptoCard

/-- THE SECOND FORM's CARD OF 'laws.FnExactNodeAt'. -/
def fnExactNodeAtUptoCard : Claim7 := { stood := { row := fnExactNodeAtUptoRow, standIns := [], harness := (true, "9badd86699a3b4ddab5185acf5d7bf984ff0e7690c8820907be8a9eb8615d1cb"), looks := false }, kinds := [], alts := [], laidByText := true, laidKinds := [.data, .data, .data], laidTests := true, laidLooks := .later }
def FnExactNodeAtUptoCardSaid : Prop := Claim7.holds Tryd.pinned (.plain (OpenSpec.upto fnExactNodeAtSpec)) fnExactNodeAtUptoCard

/-- THE SECOND FORM's CARD OF 'laws.FnExactSetNode'. -/
def fnExactSetNodeUptoCard : Claim7 := { stood := { row := fnExactSetNodeUptoRow, standIns := [], harness := (true, "9badd86699a3b4ddab5185acf5d7bf984ff0e7690c8820907be8a9eb8615d1cb"), looks := false }, kinds := [], alts := [], laidByText := true, laidKinds := [.data, .data, .data], laidTests := true, laidLooks := .later }
def FnExactSetNodeUptoCardSaid : Prop := Claim7.holds Tryd.pinned (.plain (OpenSpec.upto fnExactSetNodeSpec)) fnExactSetNodeUptoCard

/-- THE SECOND FORM's CARD OF 'laws.FnSetNodeTwo'. -/
def fnSetNodeTwoUptoCard : Claim7 := { stood := { row := fnSetNodeTwoUptoRow, standIns := [], harness := (true, "9badd86699a3b4ddab5185acf5d7bf984ff0e7690c8820907be8a9eb8615d1cb"), looks := false }, kinds := [], alts := [], laidByText := true, laidKinds := [.data, .data, .data], laidTests := true, laidLooks := .later }
def FnSetNodeTwoUptoCardSaid : Prop := Claim7.holds Tryd.pinned (.plain (OpenSpec.upto fnSetNodeTwoSpec)) fnSetNodeTwoUptoCard

/-- THE SECOND FORM's CARD OF 'laws.FnExactMatchFilter'. -/
def fnExactMatchFilterUptoCard : Claim7 := { stood := { row := fnExactMatchFilterUptoRow, standIns := [], harness := (true, "9badd86699a3b4ddab5185acf5d7bf984ff0e7690c8820907be8a9eb8615d1cb"), looks := false }, kinds := [], alts := [], laidByText := true, laidKinds := [.data, .data, .data], laidTests := true, laidLooks := .later }
def FnExactMatchFilterUptoCardSaid : Prop := Claim7.holds Tryd.pinned (.plain (OpenSpec.upto fnExactMatchFilterSpec)) fnExactMatchFilterUptoCard

/-- THE SECOND FORM's CARD OF 'laws.FnSetNode'. -/
def fnSetNodeUptoCard : Claim7 := { stood := { row := fnSetNodeUptoRow, standIns := [], harness := (true, "9badd86699a3b4ddab5185acf5d7bf984ff0e7690c8820907be8a9eb8615d1cb"), looks := false }, kinds := [], alts := [], laidByText := true, laidKinds := [.data, .data, .data], laidTests := true, laidLooks := .later }
def FnSetNodeUptoCardSaid : Prop := Claim7.holds Tryd.pinned (.plain (OpenSpec.upto fnSetNodeSpec)) fnSetNodeUptoCard

/-- THE SECOND FORM's CARD OF 'laws.FnSetNodeSame'. -/
def fnSetNodeSameUptoCard : Claim7 := { stood := { row := fnSetNodeSameUptoRow, standIns := [], harness := (true, "9badd86699a3b4ddab5185acf5d7bf984ff0e7690c8820907be8a9eb8615d1cb"), looks := false }, kinds := [], alts := [], laidByText := true, laidKinds := [.data, .data, .data], laidTests := true, laidLooks := .later }
def FnSetNodeSameUptoCardSaid : Prop := Claim7.holds Tryd.pinned (.plain (OpenSpec.upto fnSetNodeSameSpec)) fnSetNodeSameUptoCard

/-- THE SECOND FORM's CARD OF 'laws.FnExactDiffSize'. -/
def fnExactDiffSizeUptoCard : Claim7 := { stood := { row := fnExactDiffSizeUptoRow, standIns := [], harness := (true, "9badd86699a3b4ddab5185acf5d7bf984ff0e7690c8820907be8a9eb8615d1cb"), looks := false }, kinds := [], alts := [], laidByText := true, laidKinds := [.data, .data, .data], laidTests := true, laidLooks := .later }
def FnExactDiffSizeUptoCardSaid : Prop := Claim7.holds Tryd.pinned (.plain (OpenSpec.upto fnExactDiffSizeSpec)) fnExactDiffSizeUptoCard

/-- THE SECOND FORM's CARD OF 'laws.FnExactRemoveNode'. -/
def fnExactRemoveNodeUptoCard : Claim7 := { stood := { row := fnExactRemoveNodeUptoRow, standIns := [], harness := (true, "9badd86699a3b4ddab5185acf5d7bf984ff0e7690c8820907be8a9eb8615d1cb"), looks := false }, kinds := [], alts := [], laidByText := true, laidKinds := [.data, .data, .data], laidTests := true, laidLooks := .later }
def FnExactRemoveNodeUptoCardSaid : Prop := Claim7.holds Tryd.pinned (.plain (OpenSpec.upto fnExactRemoveNodeSpec)) fnExactRemoveNodeUptoCard
end Rows
end Go.Proofs.YtfjaobfaepjfnaaDoor
