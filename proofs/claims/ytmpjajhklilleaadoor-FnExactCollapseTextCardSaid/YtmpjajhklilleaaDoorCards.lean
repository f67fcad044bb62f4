/-
  DERIVED. GIVEN WITH THE SEED: THE CARDS: each row of YtmpjajhklilleaaDoorRows.lean that lists a variable, with what it lists TIED to the program's text (the seventh form; the later family's looks); each row that meets fmt, with fmt's text TOLD by the authors' own Lean function (tested against real Go, not proved from fmt's source: count such statements apart). THE CARD IS WHAT COUNTS. Prove the row's statement (the work); the ties are given (YtmpjajhklilleaaDoorTie.lean); close each card by the builder's one call (the guide's Derived/Test/ToyasCard.lean, 'card_holds'). Laid BY PROGRAM, IN A SANDBOX (cutbox-door.mjs). By AI agents, Wed Nov 11 2026. No macro, syntax, notation, axiom, sorry.
-/
import Derived.Test.YtmpjajhklilleaaDoorRows
import GoSem.ClaimSeven
namespace Go.Proofs.YtmpjajhklilleaaDoor
namespace Rows

/-- THE TIED CARD OF 'laws.FnExactCountsText'. -/
def fnExactCountsTextCard : Claim7 := { stood := { row := fnExactCountsTextRow, standIns := [], harness := (true, "3af052b92678960c5492f71b97407937fc92f3220dbb087227a0a9b33d7060e0"), looks := false }, kinds := [], alts := [], laidByText := true, laidKinds := [.data, .data, .data], laidTests := true, laidLooks := .later }
def FnExactCountsTextCardSaid : Prop := Claim7.holds Tryd.pinned (.plain (OpenSpec.ofChange fnExactCountsTextSpec)) fnExactCountsTextCard

/-- THE TIED CARD OF 'laws.FnExactCollapseText'. -/
def fnExactCollapseTextCard : Claim7 := { stood := { row := fnExactCollapseTextRow, standIns := [], harness := (true, "3af052b92678960c5492f71b97407937fc92f3220dbb087227a0a9b33d7060e0"), looks := false }, kinds := [], alts := [], laidByText := true, laidKinds := [.data, .data, .data], laidTests := true, laidLooks := .later }
def FnExactCollapseTextCardSaid : Prop := Claim7.holds Tryd.pinned (.plain (OpenSpec.ofChange fnExactCollapseTextSpec)) fnExactCollapseTextCard

/-- THE TIED CARD OF 'laws.FnExactBettiText'. -/
def fnExactBettiTextCard : Claim7 := { stood := { row := fnExactBettiTextRow, standIns := [], harness := (true, "3af052b92678960c5492f71b97407937fc92f3220dbb087227a0a9b33d7060e0"), looks := false }, kinds := [], alts := [], laidByText := true, laidKinds := [.data, .data, .data], laidTests := true, laidLooks := .later }
def FnExactBettiTextCardSaid : Prop := Claim7.holds Tryd.pinned (.plain (OpenSpec.ofChange fnExactBettiTextSpec)) fnExactBettiTextCard

/-- THE SECOND FORM's CARD OF 'laws.FnExactCountsText'. -/
def fnExactCountsTextUptoCard : Claim7 := { stood := { row := fnExactCountsTextUptoRow, standIns := [], harness := (true, "3af052b92678960c5492f71b97407937fc92f3220dbb087227a0a9b33d7060e0"), looks := false }, kinds := [], alts := [], laidByText := true, laidKinds := [.data, .data, .data], laidTests := true, laidLooks := .later }
def FnExactCountsTextUptoCardSaid : Prop := Claim7.holds Tryd.pinned (.plain (OpenSpec.upto fnExactCountsTextSpec)) fnExactCountsTextUptoCard

/-- THE SECOND FORM's CARD OF 'laws.FnExactCollapseText'. -/
def fnExactCollapseTextUptoCard : Claim7 := { stood := { row := fnExactCollapseTextUptoRow, standIns := [], harness := (true, "3af052b92678960c5492f71b97407937fc92f3220dbb087227a0a9b33d7060e0"), looks := false }, kinds := [], alts := [], laidByText := true, laidKinds := [.data, .data, .data], laidTests := true, laidLooks := .later }
def FnExactCollapseTextUptoCardSaid : Prop := Claim7.holds Tryd.pinned (.plain (OpenSpec.upto fnExactCollapseTextSpec)) fnExactCollapseTextUptoCard

/-- THE SECOND FORM's CARD OF 'laws.FnExactBettiText'. -/
def fnExactBettiTextUptoCard : Claim7 := { stood := { row := fnExactBettiTextUptoRow, standIns := [], harness := (true, "3af052b92678960c5492f71b97407937fc92f3220dbb087227a0a9b33d7060e0"), looks := false }, kinds := [], alts := [], laidByText := true, laidKinds := [.data, .data, .data], laidTests := true, laidLooks := .later }
def FnExactBettiTextUptoCardSaid : Prop := Claim7.holds Tryd.pinned (.plain (OpenSpec.upto fnExactBettiTextSpec)) fnExactBettiTextUptoCard
end Rows
end Go.Proofs.YtmpjajhklilleaaDoor
