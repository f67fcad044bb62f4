/-
  No cell of these rows narrows 'for every input' (looked for: loops, veiled, ifaces, maps, wideKeys, modest, calm, conditions, laid).
  DERIVED. THE GIVEN ROWS OF THIS SEAT. 10 by the template 'for every input the law returns true; each argument reads behind the call as it read before'; 0 by the template 'total and deterministic' (their statements: YtnfpeinbdfmlnaaTotals.lean).
  GIVEN WITH THE SEED: the statements are not yours to turn. If you find one false, say at which input.
  Laid BY PROGRAM, IN A SANDBOX (cutbox-rows.mjs): the forced cells as the released guide's own fill.sh prints them over the translation df259b0b3bf8135c… (all of the seat's roots in one cut). By AI agents, Wed Nov 11 2026. No macro, syntax, notation, axiom, sorry.
-/
import Derived.Test.YtnfpeinbdfmlnaaChecked
import GoSem.Claim
import GoSem.ClaimJoined
import GoSem.ClaimMapViews
import Derived.JoinedTies
import Derived.KernelRfl
namespace Go.Proofs.Ytnfpeinbdfmlnaa
/- THE CELL 'sum', in the pinned program and in every row, IS THE sha256 OF THE DUMP (.gsa) THAT YtnfpeinbdfmlnaaProg.lean LOADS. Nothing in Lean hashes anything: it is a label: what it is worth is what the hold of that sum in a sandbox is worth. -/
noncomputable def Try.pinned : Pinned := { name := "ytnfpeinbdfmlnaa", sum := "df259b0b3bf8135c5322a0cc8c9c9f1a7c2097b0016c740b62be3b3925dfaf0e", checked := Try.checked }
namespace Rows
def none {H : Type} : Left H := { results := [], args := [] }

/-- 'laws.FnExactLeftPowers': WHATEVER THE INPUT: true; the input reads as it did. -/
def fnExactLeftPowersSpec : ChangeSpec := { name := "fnExactLeftPowers", fn := fun _ => fun
  | [d1, d2] => { results := [.lit (.bool true)], args := [d1, d2] }
  | _ => none }
def fnExactLeftPowersRow : OpenClaim := { program := "ytnfpeinbdfmlnaa", sum := "df259b0b3bf8135c5322a0cc8c9c9f1a7c2097b0016c740b62be3b3925dfaf0e", func := "loop.example/g03100/laws.FnExactLeftPowers", spec := "fnExactLeftPowers", recurses := true, apart := false }
def FnExactLeftPowersSaid : Prop := fnExactLeftPowersRow.holds Try.pinned (OpenSpec.ofChange fnExactLeftPowersSpec)

/-- ITS FALSE NEIGHBOUR: 'it returns false'. Refute it at one input. -/
def fnExactLeftPowersWrong : ChangeSpec := { name := "fnExactLeftPowers", fn := fun _ => fun
  | [d1, d2] => { results := [.lit (.bool false)], args := [d1, d2] }
  | _ => none }
def FnExactLeftPowersWrongFalsely : Prop := fnExactLeftPowersRow.holds Try.pinned (OpenSpec.ofChange fnExactLeftPowersWrong)

/-- 'laws.FnExactPowerSums': WHATEVER THE INPUT: true; the input reads as it did. -/
def fnExactPowerSumsSpec : ChangeSpec := { name := "fnExactPowerSums", fn := fun _ => fun
  | [d] => { results := [.lit (.bool true)], args := [d] }
  | _ => none }
def fnExactPowerSumsRow : OpenClaim := { program := "ytnfpeinbdfmlnaa", sum := "df259b0b3bf8135c5322a0cc8c9c9f1a7c2097b0016c740b62be3b3925dfaf0e", func := "loop.example/g03100/laws.FnExactPowerSums", spec := "fnExactPowerSums", apart := false }
def FnExactPowerSumsSaid : Prop := fnExactPowerSumsRow.holds Try.pinned (OpenSpec.ofChange fnExactPowerSumsSpec)

/-- ITS FALSE NEIGHBOUR: 'it returns false'. Refute it at one input. -/
def fnExactPowerSumsWrong : ChangeSpec := { name := "fnExactPowerSums", fn := fun _ => fun
  | [d] => { results := [.lit (.bool false)], args := [d] }
  | _ => none }
def FnExactPowerSumsWrongFalsely : Prop := fnExactPowerSumsRow.holds Try.pinned (OpenSpec.ofChange fnExactPowerSumsWrong)

/-- 'laws.FnExactMakePowers': WHATEVER THE INPUT: true; the input reads as it did. -/
def fnExactMakePowersSpec : ChangeSpec := { name := "fnExactMakePowers", fn := fun _ => fun
  | [d] => { results := [.lit (.bool true)], args := [d] }
  | _ => none }
def fnExactMakePowersRow : OpenClaim := { program := "ytnfpeinbdfmlnaa", sum := "df259b0b3bf8135c5322a0cc8c9c9f1a7c2097b0016c740b62be3b3925dfaf0e", func := "loop.example/g03100/laws.FnExactMakePowers", spec := "fnExactMakePowers", apart := false }
def FnExactMakePowersSaid : Prop := fnExactMakePowersRow.holds Try.pinned (OpenSpec.ofChange fnExactMakePowersSpec)

/-- ITS FALSE NEIGHBOUR: 'it returns false'. Refute it at one input. -/
def fnExactMakePowersWrong : ChangeSpec := { name := "fnExactMakePowers", fn := fun _ => fun
  | [d] => { results := [.lit (.bool false)], args := [d] }
  | _ => none }
def FnExactMakePowersWrongFalsely : Prop := fnExactMakePowersRow.holds Try.pinned (OpenSpec.ofChange fnExactMakePowersWrong)

/-- 'laws.FnExactSpreadPowers': WHATEVER THE INPUT: true; the input reads as it did. -/
def fnExactSpreadPowersSpec : ChangeSpec := { name := "fnExactSpreadPowers", fn := fun _ => fun
  | [d] => { results := [.lit (.bool true)], args := [d] }
  | _ => none }
def fnExactSpreadPowersRow : OpenClaim := { program := "ytnfpeinbdfmlnaa", sum := "df259b0b3bf8135c5322a0cc8c9c9f1a7c2097b0016c740b62be3b3925dfaf0e", func := "loop.example/g03100/laws.FnExactSpreadPowers", spec := "fnExactSpreadPowers", apart := false }
def FnExactSpreadPowersSaid : Prop := fnExactSpreadPowersRow.holds Try.pinned (OpenSpec.ofChange fnExactSpreadPowersSpec)

/-- ITS FALSE NEIGHBOUR: 'it returns false'. Refute it at one input. -/
def fnExactSpreadPowersWrong : ChangeSpec := { name := "fnExactSpreadPowers", fn := fun _ => fun
  | [d] => { results := [.lit (.bool false)], args := [d] }
  | _ => none }
def FnExactSpreadPowersWrongFalsely : Prop := fnExactSpreadPowersRow.holds Try.pinned (OpenSpec.ofChange fnExactSpreadPowersWrong)

/-- 'laws.FnExactGatherIdeal': WHATEVER THE INPUT: true; the input reads as it did. -/
def fnExactGatherIdealSpec : ChangeSpec := { name := "fnExactGatherIdeal", fn := fun _ => fun
  | [d] => { results := [.lit (.bool true)], args := [d] }
  | _ => none }
def fnExactGatherIdealRow : OpenClaim := { program := "ytnfpeinbdfmlnaa", sum := "df259b0b3bf8135c5322a0cc8c9c9f1a7c2097b0016c740b62be3b3925dfaf0e", func := "loop.example/g03100/laws.FnExactGatherIdeal", spec := "fnExactGatherIdeal", apart := false }
def FnExactGatherIdealSaid : Prop := fnExactGatherIdealRow.holds Try.pinned (OpenSpec.ofChange fnExactGatherIdealSpec)

/-- ITS FALSE NEIGHBOUR: 'it returns false'. Refute it at one input. -/
def fnExactGatherIdealWrong : ChangeSpec := { name := "fnExactGatherIdeal", fn := fun _ => fun
  | [d] => { results := [.lit (.bool false)], args := [d] }
  | _ => none }
def FnExactGatherIdealWrongFalsely : Prop := fnExactGatherIdealRow.holds Try.pinned (OpenSpec.ofChange fnExactGatherIdealWrong)

/-- 'laws.FnExactDualTable': WHATEVER THE INPUT: true; the input reads as it did. -/
def fnExactDualTableSpec : ChangeSpec := { name := "fnExactDualTable", fn := fun _ => fun
  | [d1, d2] => { results := [.lit (.bool true)], args := [d1, d2] }
  | _ => none }
def fnExactDualTableRow : OpenClaim := { program := "ytnfpeinbdfmlnaa", sum := "df259b0b3bf8135c5322a0cc8c9c9f1a7c2097b0016c740b62be3b3925dfaf0e", func := "loop.example/g03100/laws.FnExactDualTable", spec := "fnExactDualTable", unfollowed := true, recurses := true, apart := false }
def FnExactDualTableSaid : Prop := fnExactDualTableRow.holds Try.pinned (OpenSpec.ofChange fnExactDualTableSpec)

/-- ITS FALSE NEIGHBOUR: 'it returns false'. Refute it at one input. -/
def fnExactDualTableWrong : ChangeSpec := { name := "fnExactDualTable", fn := fun _ => fun
  | [d1, d2] => { results := [.lit (.bool false)], args := [d1, d2] }
  | _ => none }
def FnExactDualTableWrongFalsely : Prop := fnExactDualTableRow.holds Try.pinned (OpenSpec.ofChange fnExactDualTableWrong)

/-- 'laws.FnExactFindOrder': WHATEVER THE INPUT: true; the input reads as it did. -/
def fnExactFindOrderSpec : ChangeSpec := { name := "fnExactFindOrder", fn := fun _ => fun
  | [d] => { results := [.lit (.bool true)], args := [d] }
  | _ => none }
def fnExactFindOrderRow : OpenClaim := { program := "ytnfpeinbdfmlnaa", sum := "df259b0b3bf8135c5322a0cc8c9c9f1a7c2097b0016c740b62be3b3925dfaf0e", func := "loop.example/g03100/laws.FnExactFindOrder", spec := "fnExactFindOrder", unfollowed := true, recurses := true, apart := false }
def FnExactFindOrderSaid : Prop := fnExactFindOrderRow.holds Try.pinned (OpenSpec.ofChange fnExactFindOrderSpec)

/-- ITS FALSE NEIGHBOUR: 'it returns false'. Refute it at one input. -/
def fnExactFindOrderWrong : ChangeSpec := { name := "fnExactFindOrder", fn := fun _ => fun
  | [d] => { results := [.lit (.bool false)], args := [d] }
  | _ => none }
def FnExactFindOrderWrongFalsely : Prop := fnExactFindOrderRow.holds Try.pinned (OpenSpec.ofChange fnExactFindOrderWrong)

/-- 'laws.FnExactIsLinearGraph': WHATEVER THE INPUT: true; the input reads as it did. -/
def fnExactIsLinearGraphSpec : ChangeSpec := { name := "fnExactIsLinearGraph", fn := fun _ => fun
  | [d1, d2] => { results := [.lit (.bool true)], args := [d1, d2] }
  | _ => none }
def fnExactIsLinearGraphRow : OpenClaim := { program := "ytnfpeinbdfmlnaa", sum := "df259b0b3bf8135c5322a0cc8c9c9f1a7c2097b0016c740b62be3b3925dfaf0e", func := "loop.example/g03100/laws.FnExactIsLinearGraph", spec := "fnExactIsLinearGraph", unfollowed := true, recurses := true, apart := false }
def FnExactIsLinearGraphSaid : Prop := fnExactIsLinearGraphRow.holds Try.pinned (OpenSpec.ofChange fnExactIsLinearGraphSpec)

/-- ITS FALSE NEIGHBOUR: 'it returns false'. Refute it at one input. -/
def fnExactIsLinearGraphWrong : ChangeSpec := { name := "fnExactIsLinearGraph", fn := fun _ => fun
  | [d1, d2] => { results := [.lit (.bool false)], args := [d1, d2] }
  | _ => none }
def FnExactIsLinearGraphWrongFalsely : Prop := fnExactIsLinearGraphRow.holds Try.pinned (OpenSpec.ofChange fnExactIsLinearGraphWrong)

/-- 'laws.FnExactShellingText': WHATEVER THE INPUT: true; the input reads as it did. -/
def fnExactShellingTextSpec : ChangeSpec := { name := "fnExactShellingText", fn := fun _ => fun
  | [d] => { results := [.lit (.bool true)], args := [d] }
  | _ => none }
def fnExactShellingTextRow : OpenClaim := { program := "ytnfpeinbdfmlnaa", sum := "df259b0b3bf8135c5322a0cc8c9c9f1a7c2097b0016c740b62be3b3925dfaf0e", func := "loop.example/g03100/laws.FnExactShellingText", spec := "fnExactShellingText", inPlace := ["internal/abi.NoEscape", "internal/bytealg.MakeNoZero"], unfollowed := true, recurses := true, apart := false }
def FnExactShellingTextSaid : Prop := fnExactShellingTextRow.holds Try.pinned (OpenSpec.ofChange fnExactShellingTextSpec)

/-- ITS FALSE NEIGHBOUR: 'it returns false'. Refute it at one input. -/
def fnExactShellingTextWrong : ChangeSpec := { name := "fnExactShellingText", fn := fun _ => fun
  | [d] => { results := [.lit (.bool false)], args := [d] }
  | _ => none }
def FnExactShellingTextWrongFalsely : Prop := fnExactShellingTextRow.holds Try.pinned (OpenSpec.ofChange fnExactShellingTextWrong)

/-- 'laws.FnExactExampleOf': WHATEVER THE INPUT: true; the input reads as it did. -/
def fnExactExampleOfSpec : ChangeSpec := { name := "fnExactExampleOf", fn := fun _ => fun
  | [d] => { results := [.lit (.bool true)], args := [d] }
  | _ => none }
def fnExactExampleOfRow : OpenClaim := { program := "ytnfpeinbdfmlnaa", sum := "df259b0b3bf8135c5322a0cc8c9c9f1a7c2097b0016c740b62be3b3925dfaf0e", func := "loop.example/g03100/laws.FnExactExampleOf", spec := "fnExactExampleOf", unfollowed := true, recurses := true, apart := false }
def FnExactExampleOfSaid : Prop := fnExactExampleOfRow.holds Try.pinned (OpenSpec.ofChange fnExactExampleOfSpec)

/-- ITS FALSE NEIGHBOUR: 'it returns false'. Refute it at one input. -/
def fnExactExampleOfWrong : ChangeSpec := { name := "fnExactExampleOf", fn := fun _ => fun
  | [d] => { results := [.lit (.bool false)], args := [d] }
  | _ => none }
def FnExactExampleOfWrongFalsely : Prop := fnExactExampleOfRow.holds Try.pinned (OpenSpec.ofChange fnExactExampleOfWrong)

/- THE SECOND FORM. 'bulk': how many values and letters a reading holds, each counted each time it is reached (what is shared counts as often as it is met; a slice's spare places count too). A statement '..UptoSaid' is the law's where the arguments, and the package variables that the reading takes, are together of bulk at most 1048576: NARROWER than '..Said'. Prove '..Said' where nothing that the law and all that it calls make is longer than what came in: it says more and counts as full. Else prove '..UptoSaid'. A law counts once. -/
mutual
def uptoBulk {H : Type} : DataW H → Nat
  | .lit (.string bytes) => bytes.length + 1
  | .lit _ => 1
  | .nil => 1
  | .ptr d => uptoBulk d + 1
  | .slice elems spare => uptoBulkAll elems + uptoBulkAll spare + 1
  | .agg parts => uptoBulkAll parts + 1
  | .iface _ d => uptoBulk d + 1
  | .map entries => uptoBulkEntries entries + 1
  | .held _ => 1
def uptoBulkAll {H : Type} : List (DataW H) → Nat
  | [] => 0
  | d :: r => uptoBulk d + uptoBulkAll r
def uptoBulkEntries {H : Type} : List (Lit × DataW H) → Nat
  | [] => 0
  | x :: r => uptoBulkEntry x + uptoBulkEntries r
def uptoBulkEntry {H : Type} : Lit × DataW H → Nat
  | (.string bytes, d) => bytes.length + uptoBulk d + 1
  | (_, d) => uptoBulk d + 1
 end
def uptoSmall : (H : Type) → List (DataW H) → Bool := fun _ ds => decide (uptoBulkAll ds ≤ 1048576)
def OpenSpec.upto (s : _root_.Go.ChangeSpec) : _root_.Go.OpenSpec := { _root_.Go.OpenSpec.ofChange s with cond := some uptoSmall }

/-- 'laws.FnExactLeftPowers', WHERE WHAT IT READS IS OF BULK AT MOST 1048576: true; the input reads as it did. -/
def fnExactLeftPowersUptoRow : OpenClaim := { program := "ytnfpeinbdfmlnaa", sum := "df259b0b3bf8135c5322a0cc8c9c9f1a7c2097b0016c740b62be3b3925dfaf0e", func := "loop.example/g03100/laws.FnExactLeftPowers", spec := "fnExactLeftPowers", recurses := true, apart := false, narrowed := true }
def FnExactLeftPowersUptoSaid : Prop := fnExactLeftPowersUptoRow.holds Try.pinned (OpenSpec.upto fnExactLeftPowersSpec)

/-- 'laws.FnExactPowerSums', WHERE WHAT IT READS IS OF BULK AT MOST 1048576: true; the input reads as it did. -/
def fnExactPowerSumsUptoRow : OpenClaim := { program := "ytnfpeinbdfmlnaa", sum := "df259b0b3bf8135c5322a0cc8c9c9f1a7c2097b0016c740b62be3b3925dfaf0e", func := "loop.example/g03100/laws.FnExactPowerSums", spec := "fnExactPowerSums", apart := false, narrowed := true }
def FnExactPowerSumsUptoSaid : Prop := fnExactPowerSumsUptoRow.holds Try.pinned (OpenSpec.upto fnExactPowerSumsSpec)

/-- 'laws.FnExactMakePowers', WHERE WHAT IT READS IS OF BULK AT MOST 1048576: true; the input reads as it did. -/
def fnExactMakePowersUptoRow : OpenClaim := { program := "ytnfpeinbdfmlnaa", sum := "df259b0b3bf8135c5322a0cc8c9c9f1a7c2097b0016c740b62be3b3925dfaf0e", func := "loop.example/g03100/laws.FnExactMakePowers", spec := "fnExactMakePowers", apart := false, narrowed := true }
def FnExactMakePowersUptoSaid : Prop := fnExactMakePowersUptoRow.holds Try.pinned (OpenSpec.upto fnExactMakePowersSpec)

/-- 'laws.FnExactSpreadPowers', WHERE WHAT IT READS IS OF BULK AT MOST 1048576: true; the input reads as it did. -/
def fnExactSpreadPowersUptoRow : OpenClaim := { program := "ytnfpeinbdfmlnaa", sum := "df259b0b3bf8135c5322a0cc8c9c9f1a7c2097b0016c740b62be3b3925dfaf0e", func := "loop.example/g03100/laws.FnExactSpreadPowers", spec := "fnExactSpreadPowers", apart := false, narrowed := true }
def FnExactSpreadPowersUptoSaid : Prop := fnExactSpreadPowersUptoRow.holds Try.pinned (OpenSpec.upto fnExactSpreadPowersSpec)

/-- 'laws.FnExactGatherIdeal', WHERE WHAT IT READS IS OF BULK AT MOST 1048576: true; the input reads as it did. -/
def fnExactGatherIdealUptoRow : OpenClaim := { program := "ytnfpeinbdfmlnaa", sum := "df259b0b3bf8135c5322a0cc8c9c9f1a7c2097b0016c740b62be3b3925dfaf0e", func := "loop.example/g03100/laws.FnExactGatherIdeal", spec := "fnExactGatherIdeal", apart := false, narrowed := true }
def FnExactGatherIdealUptoSaid : Prop := fnExactGatherIdealUptoRow.holds Try.pinned (OpenSpec.upto fnExactGatherIdealSpec)

/-- 'laws.FnExactDualTable', WHERE WHAT IT READS IS OF BULK AT MOST 1048576: true; the input reads as it did. -/
def fnExactDualTableUptoRow : OpenClaim := { program := "ytnfpeinbdfmlnaa", sum := "df259b0b3bf8135c5322a0cc8c9c9f1a7c2097b0016c740b62be3b3925dfaf0e", func := "loop.example/g03100/laws.FnExactDualTable", spec := "fnExactDualTable", unfollowed := true, recurses := true, apart := false, narrowed := true }
def FnExactDualTableUptoSaid : Prop := fnExactDualTableUptoRow.holds Try.pinned (OpenSpec.upto fnExactDualTableSpec)

/-- 'laws.FnExactFindOrder', WHERE WHAT IT READS IS OF BULK AT MOST 1048576: true; the input reads as it did. -/
def fnExactFindOrderUptoRow : OpenClaim := { program := "ytnfpeinbdfmlnaa", sum := "df259b0b3bf8135c5322a0cc8c9c9f1a7c2097b0016c740b62be3b3925dfaf0e", func := "loop.example/g03100/laws.FnExactFindOrder", spec := "fnExactFindOrder", unfollowed := true, recurses := true, apart := false, narrowed := true }
def FnExactFindOrderUptoSaid : Prop := fnExactFindOrderUptoRow.holds Try.pinned (OpenSpec.upto fnExactFindOrderSpec)

/-- 'laws.FnExactIsLinearGraph', WHERE WHAT IT READS IS OF BULK AT MOST 1048576: true; the input reads as it did. -/
def fnExactIsLinearGraphUptoRow : OpenClaim := { program := "ytnfpeinbdfmlnaa", sum := "df259b0b3bf8135c5322a0cc8c9c9f1a7c2097b0016c740b62be3b3925dfaf0e", func := "loop.example/g03100/laws.FnExactIsLinearGraph", spec := "fnExactIsLinearGraph", unfollowed := true, recurses := true, apart := false, narrowed := true }
def FnExactIsLinearGraphUptoSaid : Prop := fnExactIsLinearGraphUptoRow.holds Try.pinned (OpenSpec.upto fnExactIsLinearGraphSpec)

/-- 'laws.FnExactShellingText', WHERE WHAT IT READS IS OF BULK AT MOST 1048576: true; the input reads as it did. -/
def fnExactShellingTextUptoRow : OpenClaim := { program := "ytnfpeinbdfmlnaa", sum := "df259b0b3bf8135c5322a0cc8c9c9f1a7c2097b0016c740b62be3b3925dfaf0e", func := "loop.example/g03100/laws.FnExactShellingText", spec := "fnExactShellingText", inPlace := ["internal/abi.NoEscape", "internal/bytealg.MakeNoZero"], unfollowed := true, recurses := true, apart := false, narrowed := true }
def FnExactShellingTextUptoSaid : Prop := fnExactShellingTextUptoRow.holds Try.pinned (OpenSpec.upto fnExactShellingTextSpec)

/-- 'laws.FnExactExampleOf', WHERE WHAT IT READS IS OF BULK AT MOST 1048576: true; the input reads as it did. -/
def fnExactExampleOfUptoRow : OpenClaim := { program := "ytnfpeinbdfmlnaa", sum := "df259b0b3bf8135c5322a0cc8c9c9f1a7c2097b0016c740b62be3b3925dfaf0e", func := "loop.example/g03100/laws.FnExactExampleOf", spec := "fnExactExampleOf", unfollowed := true, recurses := true, apart := false, narrowed := true }
def FnExactExampleOfUptoSaid : Prop := fnExactExampleOfUptoRow.holds Try.pinned (OpenSpec.upto fnExactExampleOfSpec)

end Rows
end Go.Proofs.Ytnfpeinbdfmlnaa
