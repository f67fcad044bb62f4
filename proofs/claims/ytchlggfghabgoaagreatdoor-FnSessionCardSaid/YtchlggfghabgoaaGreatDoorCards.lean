/-
  DERIVED. GIVEN WITH THE SEED: THE CARDS: each row of YtchlggfghabgoaaGreatDoorRows.lean that lists a variable, with what it lists TIED to the program's text (the seventh form; the later family's looks); each row that meets fmt, with fmt's text TOLD by the authors' own Lean function (tested against real Go, not proved from fmt's source: count such statements apart). THE CARD IS WHAT COUNTS. Prove the row's statement (the work); the ties are given (YtchlggfghabgoaaGreatDoorTie.lean); close each card by the builder's one call (the guide's Derived/Test/ToyasCard.lean, 'card_holds'). Laid BY PROGRAM, IN A SANDBOX (cutbox-door.mjs). By AI agents, Wed Nov 11 2026. No macro, syntax, notation, axiom, sorry.
-/
import Derived.Test.YtchlggfghabgoaaGreatDoorRows
import GoSem.ClaimSeven
namespace Go.Proofs.YtchlggfghabgoaaGreatDoor
namespace Rows

/-- THE TIED CARD OF 'laws.FnSession'. -/
def fnSessionCard : Claim7 := { stood := { row := fnSessionRow, standIns := [], harness := (true, "234b84d951b95b3b3f1d38c88565ec23ed396013b7a940a5b3817de0f704064f"), looks := false }, kinds := [], alts := [], laidByText := true, laidKinds := [.data, .data, .data], laidTests := true, laidLooks := .later }
def FnSessionCardSaid : Prop := Claim7.holds Tryz.pinned (.plain (OpenSpec.ofChange fnSessionSpec)) fnSessionCard

/-- THE SECOND FORM's CARD OF 'laws.FnSession'. -/
def fnSessionUptoCard : Claim7 := { stood := { row := fnSessionUptoRow, standIns := [], harness := (true, "234b84d951b95b3b3f1d38c88565ec23ed396013b7a940a5b3817de0f704064f"), looks := false }, kinds := [], alts := [], laidByText := true, laidKinds := [.data, .data, .data], laidTests := true, laidLooks := .later }
def FnSessionUptoCardSaid : Prop := Claim7.holds Tryz.pinned (.plain (OpenSpec.upto fnSessionSpec)) fnSessionUptoCard
end Rows
end Go.Proofs.YtchlggfghabgoaaGreatDoor
