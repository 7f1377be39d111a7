/-
  DERIVED. GIVEN WITH THE SEED: THE CARDS: each row of YtmmaanbppheabaaDoorRows.lean that lists a variable, with what it lists TIED to the program's text (the seventh form; the later family's looks); each row that meets fmt, with fmt's text TOLD by the authors' own Lean function (tested against real Go, not proved from fmt's source: count such statements apart). THE CARD IS WHAT COUNTS. Prove the row's statement (the work); the ties are given (YtmmaanbppheabaaDoorTie.lean); close each card by the builder's one call (the guide's Derived/Test/ToyasCard.lean, 'card_holds'). Laid BY PROGRAM, IN A SANDBOX (cutbox-door.mjs). By AI agents, Wed Nov 11 2026. No macro, syntax, notation, axiom, sorry.
-/
import Derived.Test.YtmmaanbppheabaaDoorRows
import GoSem.ClaimSeven
namespace Go.Proofs.YtmmaanbppheabaaDoor
namespace Rows

/-- THE TIED CARD OF 'laws.FnExactMatchFilter'. -/
def fnExactMatchFilterCard : Claim7 := { stood := { row := fnExactMatchFilterRow, standIns := [], harness := (true, "2e54c2e8a8b9201e50509b032385c960191280b285c95f9113261492a8459c24"), looks := false }, kinds := [], alts := [], laidByText := true, laidKinds := [.data, .data, .data], laidTests := true, laidLooks := .later }
def FnExactMatchFilterCardSaid : Prop := Claim7.holds Tryd.pinned (.plain (OpenSpec.ofChange fnExactMatchFilterSpec)) fnExactMatchFilterCard

/-- THE TIED CARD OF 'laws.FnSetNode'. -/
def fnSetNodeCard : Claim7 := { stood := { row := fnSetNodeRow, standIns := [], harness := (true, "2e54c2e8a8b9201e50509b032385c960191280b285c95f9113261492a8459c24"), looks := false }, kinds := [], alts := [], laidByText := true, laidKinds := [.data, .data, .data], laidTests := true, laidLooks := .later }
def FnSetNodeCardSaid : Prop := Claim7.holds Tryd.pinned (.plain (OpenSpec.ofChange fnSetNodeSpec)) fnSetNodeCard

/-- THE TIED CARD OF 'laws.FnExactDiffSize'. -/
def fnExactDiffSizeCard : Claim7 := { stood := { row := fnExactDiffSizeRow, standIns := [], harness := (true, "2e54c2e8a8b9201e50509b032385c960191280b285c95f9113261492a8459c24"), looks := false }, kinds := [], alts := [], laidByText := true, laidKinds := [.data, .data, .data], laidTests := true, laidLooks := .later }
def FnExactDiffSizeCardSaid : Prop := Claim7.holds Tryd.pinned (.plain (OpenSpec.ofChange fnExactDiffSizeSpec)) fnExactDiffSizeCard

/-- THE SECOND FORM's CARD OF 'laws.FnExactMatchFilter'. -/
def fnExactMatchFilterUptoCard : Claim7 := { stood := { row := fnExactMatchFilterUptoRow, standIns := [], harness := (true, "2e54c2e8a8b9201e50509b032385c960191280b285c95f9113261492a8459c24"), looks := false }, kinds := [], alts := [], laidByText := true, laidKinds := [.data, .data, .data], laidTests := true, laidLooks := .later }
def FnExactMatchFilterUptoCardSaid : Prop := Claim7.holds Tryd.pinned (.plain (OpenSpec.upto fnExactMatchFilterSpec)) fnExactMatchFilterUptoCard

/-- THE SECOND FORM's CARD OF 'laws.FnSetNode'. -/
def fnSetNodeUptoCard : Claim7 := { stood := { row := fnSetNodeUptoRow, standIns := [], harness := (true, "2e54c2e8a8b9201e50509b032385c960191280b285c95f9113261492a8459c24"), looks := false }, kinds := [], alts := [], laidByText := true, laidKinds := [.data, .data, .data], laidTests := true, laidLooks := .later }
def FnSetNodeUptoCardSaid : Prop := Claim7.holds Tryd.pinned (.plain (OpenSpec.upto fnSetNodeSpec)) fnSetNodeUptoCard

/-- THE SECOND FORM's CARD OF 'laws.FnExactDiffSize'. -/
def fnExactDiffSizeUptoCard : Claim7 := { stood := { row := fnExactDiffSizeUptoRow, standIns := [], harness := (true, "2e54c2e8a8b9201e50509b032385c960191280b285c95f9113261492a8459c24"), looks := false }, kinds := [], alts := [], laidByText := true, laidKinds := [.data, .data, .data], laidTests := true, laidLooks := .later }
def FnExactDiffSizeUptoCardSaid : Prop := Claim7.holds Tryd.pinned (.plain (OpenSpec.upto fnExactDiffSizeSpec)) fnExactDiffSizeUptoCard
end Rows
end Go.Proofs.YtmmaanbppheabaaDoor
