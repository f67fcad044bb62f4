/-
  DERIVED. GIVEN WITH THE SEED: THE CARDS: each row of YtkledeboboplmaaGreatDoorRows.lean that lists a variable, with what it lists TIED to the program's text (the seventh form; the later family's looks); each row that meets fmt, with fmt's text TOLD by the authors' own Lean function (tested against real Go, not proved from fmt's source: count such statements apart). THE CARD IS WHAT COUNTS. Prove the row's statement (the work); the ties are given (YtkledeboboplmaaGreatDoorTie.lean); close each card by the builder's one call (the guide's Derived/Test/ToyasCard.lean, 'card_holds'). Laid BY PROGRAM, IN A SANDBOX (cutbox-door.mjs). By AI agents, Wed Nov 11 2026. No macro, syntax, notation, axiom, sorry.
-/
import Derived.Test.YtkledeboboplmaaGreatDoorRows
import GoSem.ClaimSeven
namespace Go.Proofs.YtkledeboboplmaaGreatDoor
namespace Rows

/-- THE TIED CARD OF 'laws.FnExactDescribeComplex'. -/
def fnExactDescribeComplexCard : Claim7 := { stood := { row := fnExactDescribeComplexRow, standIns := [], harness := (true, "fc26304299b5d669e31cfdb8fd0836141c4ee5ef8f9428146e8acf6d5ef37428"), looks := false }, kinds := [], alts := [], laidByText := true, laidKinds := [.data, .data, .data], laidTests := true, laidLooks := .later }
def FnExactDescribeComplexCardSaid : Prop := Claim7.holds Tryz.pinned (.plain (OpenSpec.ofChange fnExactDescribeComplexSpec)) fnExactDescribeComplexCard

/-- THE TIED CARD OF 'laws.FnReports'. -/
def fnReportsCard : Claim7 := { stood := { row := fnReportsRow, standIns := [], harness := (true, "fc26304299b5d669e31cfdb8fd0836141c4ee5ef8f9428146e8acf6d5ef37428"), looks := false }, kinds := [], alts := [], laidByText := true, laidKinds := [.data, .data, .data], laidTests := true, laidLooks := .later }
def FnReportsCardSaid : Prop := Claim7.holds Tryz.pinned (.plain (OpenSpec.ofChange fnReportsSpec)) fnReportsCard

/-- THE SECOND FORM's CARD OF 'laws.FnExactDescribeComplex'. -/
def fnExactDescribeComplexUptoCard : Claim7 := { stood := { row := fnExactDescribeComplexUptoRow, standIns := [], harness := (true, "fc26304299b5d669e31cfdb8fd0836141c4ee5ef8f9428146e8acf6d5ef37428"), looks := false }, kinds := [], alts := [], laidByText := true, laidKinds := [.data, .data, .data], laidTests := true, laidLooks := .later }
def FnExactDescribeComplexUptoCardSaid : Prop := Claim7.holds Tryz.pinned (.plain (OpenSpec.upto fnExactDescribeComplexSpec)) fnExactDescribeComplexUptoCard

/-- THE SECOND FORM's CARD OF 'laws.FnReports'. -/
def fnReportsUptoCard : Claim7 := { stood := { row := fnReportsUptoRow, standIns := [], harness := (true, "fc26304299b5d669e31cfdb8fd0836141c4ee5ef8f9428146e8acf6d5ef37428"), looks := false }, kinds := [], alts := [], laidByText := true, laidKinds := [.data, .data, .data], laidTests := true, laidLooks := .later }
def FnReportsUptoCardSaid : Prop := Claim7.holds Tryz.pinned (.plain (OpenSpec.upto fnReportsSpec)) fnReportsUptoCard
end Rows
end Go.Proofs.YtkledeboboplmaaGreatDoor
