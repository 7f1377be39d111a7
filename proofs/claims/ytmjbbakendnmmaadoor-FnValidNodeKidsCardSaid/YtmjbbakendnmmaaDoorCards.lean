/-
  DERIVED. GIVEN WITH THE SEED: THE CARDS: each row of YtmjbbakendnmmaaDoorRows.lean that lists a variable, with what it lists TIED to the program's text (the seventh form; the later family's looks); each row that meets fmt, with fmt's text TOLD by the authors' own Lean function (tested against real Go, not proved from fmt's source: count such statements apart). THE CARD IS WHAT COUNTS. Prove the row's statement (the work); the ties are given (YtmjbbakendnmmaaDoorTie.lean); close each card by the builder's one call (the guide's Derived/Test/ToyasCard.lean, 'card_holds'). Laid BY PROGRAM, IN A SANDBOX (cutbox-door.mjs). By AI agents, Wed Nov 11 2026. No macro, syntax, notation, axiom, sorry.
-/
import Derived.Test.YtmjbbakendnmmaaDoorRows
import GoSem.ClaimSeven
namespace Go.Proofs.YtmjbbakendnmmaaDoor
namespace Rows

/-- THE TIED CARD OF 'laws.FnAllPaths'. -/
def fnAllPathsCard : Claim7 := { stood := { row := fnAllPathsRow, standIns := [], harness := (true, "1ac93f7132ab00ec951d4a5ef0983b6299e4199a9d0bd16c1b93a6db6df035c8"), looks := false }, kinds := [], alts := [], laidByText := true, laidKinds := [.data, .data, .data], laidTests := true, laidLooks := .later }
def FnAllPathsCardSaid : Prop := Claim7.holds Tryd.pinned (.plain (OpenSpec.ofChange fnAllPathsSpec)) fnAllPathsCard

/-- THE TIED CARD OF 'laws.FnExactAllPaths'. -/
def fnExactAllPathsCard : Claim7 := { stood := { row := fnExactAllPathsRow, standIns := [], harness := (true, "1ac93f7132ab00ec951d4a5ef0983b6299e4199a9d0bd16c1b93a6db6df035c8"), looks := false }, kinds := [], alts := [], laidByText := true, laidKinds := [.data, .data, .data], laidTests := true, laidLooks := .later }
def FnExactAllPathsCardSaid : Prop := Claim7.holds Tryd.pinned (.plain (OpenSpec.ofChange fnExactAllPathsSpec)) fnExactAllPathsCard

/-- THE TIED CARD OF 'laws.FnAllPathsDepth'. -/
def fnAllPathsDepthCard : Claim7 := { stood := { row := fnAllPathsDepthRow, standIns := [], harness := (true, "1ac93f7132ab00ec951d4a5ef0983b6299e4199a9d0bd16c1b93a6db6df035c8"), looks := false }, kinds := [], alts := [], laidByText := true, laidKinds := [.data, .data, .data], laidTests := true, laidLooks := .later }
def FnAllPathsDepthCardSaid : Prop := Claim7.holds Tryd.pinned (.plain (OpenSpec.ofChange fnAllPathsDepthSpec)) fnAllPathsDepthCard

/-- THE TIED CARD OF 'laws.FnValidNodeKids'. -/
def fnValidNodeKidsCard : Claim7 := { stood := { row := fnValidNodeKidsRow, standIns := [], harness := (true, "1ac93f7132ab00ec951d4a5ef0983b6299e4199a9d0bd16c1b93a6db6df035c8"), looks := false }, kinds := [], alts := [], laidByText := true, laidKinds := [.data, .data, .data], laidTests := true, laidLooks := .later }
def FnValidNodeKidsCardSaid : Prop := Claim7.holds Tryd.pinned (.plain (OpenSpec.ofChange fnValidNodeKidsSpec)) fnValidNodeKidsCard

/-- THE TIED CARD OF 'laws.FnExactNodeAt'. -/
def fnExactNodeAtCard : Claim7 := { stood := { row := fnExactNodeAtRow, standIns := [], harness := (true, "1ac93f7132ab00ec951d4a5ef0983b6299e4199a9d0bd16c1b93a6db6df035c8"), looks := false }, kinds := [], alts := [], laidByText := true, laidKinds := [.data, .data, .data], laidTests := true, laidLooks := .later }
def FnExactNodeAtCardSaid : Prop := Claim7.holds Tryd.pinned (.plain (OpenSpec.ofChange fnExactNodeAtSpec)) fnExactNodeAtCard

/-- THE TIED CARD OF 'laws.FnNodeAt'. -/
def fnNodeAtCard : Claim7 := { stood := { row := fnNodeAtRow, standIns := [], harness := (true, "1ac93f7132ab00ec951d4a5ef0983b6299e4199a9d0bd16c1b93a6db6df035c8"), looks := false }, kinds := [], alts := [], laidByText := true, laidKinds := [.data, .data, .data], laidTests := true, laidLooks := .later }
def FnNodeAtCardSaid : Prop := Claim7.holds Tryd.pinned (.plain (OpenSpec.ofChange fnNodeAtSpec)) fnNodeAtCard

/-- THE TIED CARD OF 'laws.FnExactMatchFilter'. -/
def fnExactMatchFilterCard : Claim7 := { stood := { row := fnExactMatchFilterRow, standIns := [], harness := (true, "1ac93f7132ab00ec951d4a5ef0983b6299e4199a9d0bd16c1b93a6db6df035c8"), looks := false }, kinds := [], alts := [], laidByText := true, laidKinds := [.data, .data, .data], laidTests := true, laidLooks := .later }
def FnExactMatchFilterCardSaid : Prop := Claim7.holds Tryd.pinned (.plain (OpenSpec.ofChange fnExactMatchFilterSpec)) fnExactMatchFilterCard

/-- THE TIED CARD OF 'laws.FnNodeAtAll'. -/
def fnNodeAtAllCard : Claim7 := { stood := { row := fnNodeAtAllRow, standIns := [], harness := (true, "1ac93f7132ab00ec951d4a5ef0983b6299e4199a9d0bd16c1b93a6db6df035c8"), looks := false }, kinds := [], alts := [], laidByText := true, laidKinds := [.data, .data, .data], laidTests := true, laidLooks := .later }
def FnNodeAtAllCardSaid : Prop := Claim7.holds Tryd.pinned (.plain (OpenSpec.ofChange fnNodeAtAllSpec)) fnNodeAtAllCard

/-- THE SECOND FORM's CARD OF 'laws.FnAllPaths'. -/
def fnAllPathsUptoCard : Claim7 := { stood := { row := fnAllPathsUptoRow, standIns := [], harness := (true, "1ac93f7132ab00ec951d4a5ef0983b6299e4199a9d0bd16c1b93a6db6df035c8"), looks := false }, kinds := [], alts := [], laidByText := true, laidKinds := [.data, .data, .data], laidTests := true, laidLooks := .later }
def FnAllPathsUptoCardSaid : Prop := Claim7.holds Tryd.pinned (.plain (OpenSpec.upto fnAllPathsSpec)) fnAllPathsUptoCard

/-- THE SECOND FORM's CARD OF 'laws.FnExactAllPaths'. -/
def fnExactAllPathsUptoCard : Claim7 := { stood := { row := fnExactAllPathsUptoRow, standIns := [], harness := (true, "1ac93f7132ab00ec951d4a5ef0983b6299e4199a9d0bd16c1b93a6db6df035c8"), looks := false }, kinds := [], alts := [], laidByText := true, laidKinds := [.data, .data, .data], laidTests := true, laidLooks := .later }
def FnExactAllPathsUptoCardSaid : Prop := Claim7.holds Tryd.pinned (.plain (OpenSpec.upto fnExactAllPathsSpec)) fnExactAllPathsUptoCard

/-- THE SECOND FORM's CARD OF 'laws.FnAllPathsDepth'. -/
def fnAllPathsDepthUptoCard : Claim7 := { stood := { row := fnAllPathsDepthUptoRow, standIns := [], harness := (true, "1ac93f7132ab00ec951d4a5ef0983b6299e4199a9d0bd16c1b93a6db6df035c8"), looks := false }, kinds := [], alts := [], laidByText := true, laidKinds := [.data, .data, .data], laidTests := true, laidLooks := .later }
def FnAllPathsDepthUptoCardSaid : Prop := Claim7.holds Tryd.pinned (.plain (OpenSpec.upto fnAllPathsDepthSpec)) fnAllPathsDepthUptoCard

/-- THE SECOND FORM's CARD OF 'laws.FnValidNodeKids'. -/
def fnValidNodeKidsUptoCard : Claim7 := { stood := { row := fnValidNodeKidsUptoRow, standIns := [], harness := (true, "1ac93f7132ab00ec951d4a5ef0983b6299e4199a9d0bd16c1b93a6db6df035c8"), looks := false }, kinds := [], alts := [], laidByText := true, laidKinds := [.data, .data, .data], laidTests := true, laidLooks := .later }
def FnValidNodeKidsUptoCardSaid : Prop := Claim7.holds Tryd.pinned (.plain (OpenSpec.upto fnValidNodeKidsSpec)) fnValidNodeKidsUptoCard

/-- THE SECOND FORM's CARD OF 'laws.FnExactNodeAt'. -/
def fnExactNodeAtUptoCard : Claim7 := { stood := { row := fnExactNodeAtUptoRow, standIns := [], harness := (true, "1ac93f7132ab00ec951d4a5ef0983b6299e4199a9d0bd16c1b93a6db6df035c8"), looks := false }, kinds := [], alts := [], laidByText := true, laidKinds := [.data, .data, .data], laidTests := true, laidLooks := .later }
def FnExactNodeAtUptoCardSaid : Prop := Claim7.holds Tryd.pinned (.plain (OpenSpec.upto fnExactNodeAtSpec)) fnExactNodeAtUptoCard

/-- THE SECOND FORM's CARD OF 'laws.FnNodeAt'. -/
def fnNodeAtUptoCard : Claim7 := { stood := { row := fnNodeAtUptoRow, standIns := [], harness := (true, "1ac93f7132ab00ec951d4a5ef0983b6299e4199a9d0bd16c1b93a6db6df035c8"), looks := false }, kinds := [], alts := [], laidByText := true, laidKinds := [.data, .data, .data], laidTests := true, laidLooks := .later }
def FnNodeAtUptoCardSaid : Prop := Claim7.holds Tryd.pinned (.plain (OpenSpec.upto fnNodeAtSpec)) fnNodeAtUptoCard

/-- THE SECOND FORM's CARD OF 'laws.FnExactMatchFilter'. -/
def fnExactMatchFilterUptoCard : Claim7 := { stood := { row := fnExactMatchFilterUptoRow, standIns := [], harness := (true, "1ac93f7132ab00ec951d4a5ef0983b6299e4199a9d0bd16c1b93a6db6df035c8"), looks := false }, kinds := [], alts := [], laidByText := true, laidKinds := [.data, .data, .data], laidTests := true, laidLooks := .later }
def FnExactMatchFilterUptoCardSaid : Prop := Claim7.holds Tryd.pinned (.plain (OpenSpec.upto fnExactMatchFilterSpec)) fnExactMatchFilterUptoCard

/-- THE SECOND FORM's CARD OF 'laws.FnNodeAtAll'. -/
def fnNodeAtAllUptoCard : Claim7 := { stood := { row := fnNodeAtAllUptoRow, standIns := [], harness := (true, "1ac93f7132ab00ec951d4a5ef0983b6299e4199a9d0bd16c1b93a6db6df035c8"), looks := false }, kinds := [], alts := [], laidByText := true, laidKinds := [.data, .data, .data], laidTests := true, laidLooks := .later }
def FnNodeAtAllUptoCardSaid : Prop := Claim7.holds Tryd.pinned (.plain (OpenSpec.upto fnNodeAtAllSpec)) fnNodeAtAllUptoCard
end Rows
end Go.Proofs.YtmjbbakendnmmaaDoor
