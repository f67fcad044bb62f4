/-
  DERIVED. GIVEN WITH THE SEED: THE CARDS: each row of YtdomcincpocchaaGreatDoorRows.lean that lists a variable, with what it lists TIED to the program's text (the seventh form; the later family's looks); each row that meets fmt, with fmt's text TOLD by the authors' own Lean function (tested against real Go, not proved from fmt's source: count such statements apart). THE CARD IS WHAT COUNTS. Prove the row's statement (the work); the ties are given (YtdomcincpocchaaGreatDoorTie.lean); close each card by the builder's one call (the guide's Derived/Test/ToyasCard.lean, 'card_holds'). Laid BY PROGRAM, IN A SANDBOX (cutbox-door.mjs). By AI agents, Wed Nov 11 2026. No macro, syntax, notation, axiom, sorry.
-/
import Derived.Test.YtdomcincpocchaaGreatDoorRows
import GoSem.ClaimSeven
namespace Go.Proofs.YtdomcincpocchaaGreatDoor
namespace Rows

/-- THE TIED CARD OF 'laws.FnExactExecuteLine'. -/
def fnExactExecuteLineCard : Claim7 := { stood := { row := fnExactExecuteLineRow, standIns := [], harness := (true, "66dacd5c0d49d34baf28b7121b52068244b23142365ff013a655b447658c4559"), looks := false }, kinds := [], alts := [], laidByText := true, laidKinds := [.data, .data, .data], laidTests := true, laidLooks := .later }
def FnExactExecuteLineCardSaid : Prop := Claim7.holds Tryz.pinned (.plain (OpenSpec.ofChange fnExactExecuteLineSpec)) fnExactExecuteLineCard

/-- THE SECOND FORM's CARD OF 'laws.FnExactExecuteLine'. -/
def fnExactExecuteLineUptoCard : Claim7 := { stood := { row := fnExactExecuteLineUptoRow, standIns := [], harness := (true, "66dacd5c0d49d34baf28b7121b52068244b23142365ff013a655b447658c4559"), looks := false }, kinds := [], alts := [], laidByText := true, laidKinds := [.data, .data, .data], laidTests := true, laidLooks := .later }
def FnExactExecuteLineUptoCardSaid : Prop := Claim7.holds Tryz.pinned (.plain (OpenSpec.upto fnExactExecuteLineSpec)) fnExactExecuteLineUptoCard
end Rows
end Go.Proofs.YtdomcincpocchaaGreatDoor
