/-
  DERIVED. GIVEN WITH THE SEED: THE CARDS: each row of YtjikeknpidbceaaGreatDoorRows.lean that lists a variable, with what it lists TIED to the program's text (the seventh form; the later family's looks); each row that meets fmt, with fmt's text TOLD by the authors' own Lean function (tested against real Go, not proved from fmt's source: count such statements apart). THE CARD IS WHAT COUNTS. Prove the row's statement (the work); the ties are given (YtjikeknpidbceaaGreatDoorTie.lean); close each card by the builder's one call (the guide's Derived/Test/ToyasCard.lean, 'card_holds'). Laid BY PROGRAM, IN A SANDBOX (cutbox-door.mjs). By AI agents, Wed Nov 11 2026. No macro, syntax, notation, axiom, sorry.
-/
import Derived.Test.YtjikeknpidbceaaGreatDoorRows
import GoSem.ClaimSeven
namespace Go.Proofs.YtjikeknpidbceaaGreatDoor
namespace Rows

/-- THE TIED CARD OF 'laws.FnDualTables'. -/
def fnDualTablesCard : Claim7 := { stood := { row := fnDualTablesRow, standIns := [], harness := (true, "34b05a9d5a7cae9497dc7c0817ed6830503cb17709d56a011234c27a1625b3b5"), looks := false }, kinds := [], alts := [], laidByText := true, laidKinds := [.data, .data, .data], laidTests := true, laidLooks := .later }
def FnDualTablesCardSaid : Prop := Claim7.holds Tryz.pinned (.plain (OpenSpec.ofChange fnDualTablesSpec)) fnDualTablesCard

/-- THE SECOND FORM's CARD OF 'laws.FnDualTables'. -/
def fnDualTablesUptoCard : Claim7 := { stood := { row := fnDualTablesUptoRow, standIns := [], harness := (true, "34b05a9d5a7cae9497dc7c0817ed6830503cb17709d56a011234c27a1625b3b5"), looks := false }, kinds := [], alts := [], laidByText := true, laidKinds := [.data, .data, .data], laidTests := true, laidLooks := .later }
def FnDualTablesUptoCardSaid : Prop := Claim7.holds Tryz.pinned (.plain (OpenSpec.upto fnDualTablesSpec)) fnDualTablesUptoCard
end Rows
end Go.Proofs.YtjikeknpidbceaaGreatDoor
