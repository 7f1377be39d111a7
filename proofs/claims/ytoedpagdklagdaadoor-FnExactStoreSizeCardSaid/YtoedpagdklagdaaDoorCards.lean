/-
  DERIVED. GIVEN WITH THE SEED: THE CARDS: each row of YtoedpagdklagdaaDoorRows.lean that lists a variable, with what it lists TIED to the program's text (the seventh form; the later family's looks); each row that meets fmt, with fmt's text TOLD by the authors' own Lean function (tested against real Go, not proved from fmt's source: count such statements apart). THE CARD IS WHAT COUNTS. Prove the row's statement (the work); the ties are given (YtoedpagdklagdaaDoorTie.lean); close each card by the builder's one call (the guide's Derived/Test/ToyasCard.lean, 'card_holds'). Laid BY PROGRAM, IN A SANDBOX (cutbox-door.mjs). By AI agents, Wed Nov 11 2026. No macro, syntax, notation, axiom, sorry.
-/
import Derived.Test.YtoedpagdklagdaaDoorRows
import GoSem.ClaimSeven
namespace Go.Proofs.YtoedpagdklagdaaDoor
namespace Rows

/-- THE TIED CARD OF 'laws.FnExactFormatNode'. -/
def fnExactFormatNodeCard : Claim7 := { stood := { row := fnExactFormatNodeRow, standIns := [], harness := (true, "3ad34a45a9cfe3486ccab62d2440dc5bbbd526ffafc36849456a8fd1d5437193"), looks := false }, kinds := [], alts := [], laidByText := true, laidKinds := [.data, .data, .data], laidTests := true, laidLooks := .later }
def FnExactFormatNodeCardSaid : Prop := Claim7.holds Tryd.pinned (.plain (OpenSpec.ofChange fnExactFormatNodeSpec)) fnExactFormatNodeCard

/-- THE TIED CARD OF 'laws.FnExactTextSize'. -/
def fnExactTextSizeCard : Claim7 := { stood := { row := fnExactTextSizeRow, standIns := [], harness := (true, "3ad34a45a9cfe3486ccab62d2440dc5bbbd526ffafc36849456a8fd1d5437193"), looks := false }, kinds := [], alts := [], laidByText := true, laidKinds := [.data, .data, .data], laidTests := true, laidLooks := .later }
def FnExactTextSizeCardSaid : Prop := Claim7.holds Tryd.pinned (.plain (OpenSpec.ofChange fnExactTextSizeSpec)) fnExactTextSizeCard

/-- THE TIED CARD OF 'laws.FnValidNode'. -/
def fnValidNodeCard : Claim7 := { stood := { row := fnValidNodeRow, standIns := [], harness := (true, "3ad34a45a9cfe3486ccab62d2440dc5bbbd526ffafc36849456a8fd1d5437193"), looks := false }, kinds := [], alts := [], laidByText := true, laidKinds := [.data, .data, .data], laidTests := true, laidLooks := .later }
def FnValidNodeCardSaid : Prop := Claim7.holds Tryd.pinned (.plain (OpenSpec.ofChange fnValidNodeSpec)) fnValidNodeCard

/-- THE TIED CARD OF 'laws.FnExactTagOf'. -/
def fnExactTagOfCard : Claim7 := { stood := { row := fnExactTagOfRow, standIns := [], harness := (true, "3ad34a45a9cfe3486ccab62d2440dc5bbbd526ffafc36849456a8fd1d5437193"), looks := false }, kinds := [], alts := [], laidByText := true, laidKinds := [.data, .data, .data], laidTests := true, laidLooks := .later }
def FnExactTagOfCardSaid : Prop := Claim7.holds Tryd.pinned (.plain (OpenSpec.ofChange fnExactTagOfSpec)) fnExactTagOfCard

/-- THE TIED CARD OF 'laws.FnNodeTextParts'. -/
def fnNodeTextPartsCard : Claim7 := { stood := { row := fnNodeTextPartsRow, standIns := [], harness := (true, "3ad34a45a9cfe3486ccab62d2440dc5bbbd526ffafc36849456a8fd1d5437193"), looks := false }, kinds := [], alts := [], laidByText := true, laidKinds := [.data, .data, .data], laidTests := true, laidLooks := .later }
def FnNodeTextPartsCardSaid : Prop := Claim7.holds Tryd.pinned (.plain (OpenSpec.ofChange fnNodeTextPartsSpec)) fnNodeTextPartsCard

/-- THE TIED CARD OF 'laws.FnTextSize'. -/
def fnTextSizeCard : Claim7 := { stood := { row := fnTextSizeRow, standIns := [], harness := (true, "3ad34a45a9cfe3486ccab62d2440dc5bbbd526ffafc36849456a8fd1d5437193"), looks := false }, kinds := [], alts := [], laidByText := true, laidKinds := [.data, .data, .data], laidTests := true, laidLooks := .later }
def FnTextSizeCardSaid : Prop := Claim7.holds Tryd.pinned (.plain (OpenSpec.ofChange fnTextSizeSpec)) fnTextSizeCard

/-- THE TIED CARD OF 'laws.FnTagOfChange'. -/
def fnTagOfChangeCard : Claim7 := { stood := { row := fnTagOfChangeRow, standIns := [], harness := (true, "3ad34a45a9cfe3486ccab62d2440dc5bbbd526ffafc36849456a8fd1d5437193"), looks := false }, kinds := [], alts := [], laidByText := true, laidKinds := [.data, .data, .data], laidTests := true, laidLooks := .later }
def FnTagOfChangeCardSaid : Prop := Claim7.holds Tryd.pinned (.plain (OpenSpec.ofChange fnTagOfChangeSpec)) fnTagOfChangeCard

/-- THE TIED CARD OF 'laws.FnExactStoreSize'. -/
def fnExactStoreSizeCard : Claim7 := { stood := { row := fnExactStoreSizeRow, standIns := [], harness := (true, "3ad34a45a9cfe3486ccab62d2440dc5bbbd526ffafc36849456a8fd1d5437193"), looks := false }, kinds := [], alts := [], laidByText := true, laidKinds := [.data, .data, .data], laidTests := true, laidLooks := .later }
def FnExactStoreSizeCardSaid : Prop := Claim7.holds Tryd.pinned (.plain (OpenSpec.ofChange fnExactStoreSizeSpec)) fnExactStoreSizeCard

/-- THE SECOND FORM's CARD OF 'laws.FnExactFormatNode'. -/
def fnExactFormatNodeUptoCard : Claim7 := { stood := { row := fnExactFormatNodeUptoRow, standIns := [], harness := (true, "3ad34a45a9cfe3486ccab62d2440dc5bbbd526ffafc36849456a8fd1d5437193"), looks := false }, kinds := [], alts := [], laidByText := true, laidKinds := [.data, .data, .data], laidTests := true, laidLooks := .later }
def FnExactFormatNodeUptoCardSaid : Prop := Claim7.holds Tryd.pinned (.plain (OpenSpec.upto fnExactFormatNodeSpec)) fnExactFormatNodeUptoCard

/-- THE SECOND FORM's CARD OF 'laws.FnExactTextSize'. -/
def fnExactTextSizeUptoCard : Claim7 := { stood := { row := fnExactTextSizeUptoRow, standIns := [], harness := (true, "3ad34a45a9cfe3486ccab62d2440dc5bbbd526ffafc36849456a8fd1d5437193"), looks := false }, kinds := [], alts := [], laidByText := true, laidKinds := [.data, .data, .data], laidTests := true, laidLooks := .later }
def FnExactTextSizeUptoCardSaid : Prop := Claim7.holds Tryd.pinned (.plain (OpenSpec.upto fnExactTextSizeSpec)) fnExactTextSizeUptoCard

/-- THE SECOND FORM's CARD OF 'laws.FnValidNode'. -/
def fnValidNodeUptoCard : Claim7 := { stood := { row := fnValidNodeUptoRow, standIns := [], harness := (true, "3ad34a45a9cfe3486ccab62d2440dc5bbbd526ffafc36849456a8fd1d5437193"), looks := false }, kinds := [], alts := [], laidByText := true, laidKinds := [.data, .data, .data], laidTests := true, laidLooks := .later }
def FnValidNodeUptoCardSaid : Prop := Claim7.holds Tryd.pinned (.plain (OpenSpec.upto fnValidNodeSpec)) fnValidNodeUptoCard

/-- THE SECOND FORM's CARD OF 'laws.FnExactTagOf'. -/
def fnExactTagOfUptoCard : Claim7 := { stood := { row := fnExactTagOfUptoRow, standIns := [], harness := (true, "3ad34a45a9cfe3486ccab62d2440dc5bbbd526ffafc36849456a8fd1d5437193"), looks := false }, kinds := [], alts := [], laidByText := true, laidKinds := [.data, .data, .data], laidTests := true, laidLooks := .later }
def FnExactTagOfUptoCardSaid : Prop := Claim7.holds Tryd.pinned (.plain (OpenSpec.upto fnExactTagOfSpec)) fnExactTagOfUptoCard

/-- THE SECOND FORM's CARD OF 'laws.FnNodeTextParts'. -/
def fnNodeTextPartsUptoCard : Claim7 := { stood := { row := fnNodeTextPartsUptoRow, standIns := [], harness := (true, "3ad34a45a9cfe3486ccab62d2440dc5bbbd526ffafc36849456a8fd1d5437193"), looks := false }, kinds := [], alts := [], laidByText := true, laidKinds := [.data, .data, .data], laidTests := true, laidLooks := .later }
def FnNodeTextPartsUptoCardSaid : Prop := Claim7.holds Tryd.pinned (.plain (OpenSpec.upto fnNodeTextPartsSpec)) fnNodeTextPartsUptoCard

/-- THE SECOND FORM's CARD OF 'laws.FnTextSize'. -/
def fnTextSizeUptoCard : Claim7 := { stood := { row := fnTextSizeUptoRow, standIns := [], harness := (true, "3ad34a45a9cfe3486ccab62d2440dc5bbbd526ffafc36849456a8fd1d5437193"), looks := false }, kinds := [], alts := [], laidByText := true, laidKinds := [.data, .data, .data], laidTests := true, laidLooks := .later }
def FnTextSizeUptoCardSaid : Prop := Claim7.holds Tryd.pinned (.plain (OpenSpec.upto fnTextSizeSpec)) fnTextSizeUptoCard

/-- THE SECOND FORM's CARD OF 'laws.FnTagOfChange'. -/
def fnTagOfChangeUptoCard : Claim7 := { stood := { row := fnTagOfChangeUptoRow, standIns := [], harness := (true, "3ad34a45a9cfe3486ccab62d2440dc5bbbd526ffafc36849456a8fd1d5437193"), looks := false }, kinds := [], alts := [], laidByText := true, laidKinds := [.data, .data, .data], laidTests := true, laidLooks := .later }
def FnTagOfChangeUptoCardSaid : Prop := Claim7.holds Tryd.pinned (.plain (OpenSpec.upto fnTagOfChangeSpec)) fnTagOfChangeUptoCard

/-- THE SECOND FORM's CARD OF 'laws.FnExactStoreSize'. -/
def fnExactStoreSizeUptoCard : Claim7 := { stood := { row := fnExactStoreSizeUptoRow, standIns := [], harness := (true, "3ad34a45a9cfe3486ccab62d2440dc5bbbd526ffafc36849456a8fd1d5437193"), looks := false }, kinds := [], alts := [], laidByText := true, laidKinds := [.data, .data, .data], laidTests := true, laidLooks := .later }
def FnExactStoreSizeUptoCardSaid : Prop := Claim7.holds Tryd.pinned (.plain (OpenSpec.upto fnExactStoreSizeSpec)) fnExactStoreSizeUptoCard
end Rows
end Go.Proofs.YtoedpagdklagdaaDoor
