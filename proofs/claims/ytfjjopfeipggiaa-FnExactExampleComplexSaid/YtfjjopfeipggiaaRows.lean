/-
  No cell of these rows narrows 'for every input' (looked for: loops, veiled, ifaces, maps, wideKeys, modest, calm, conditions, laid).
  DERIVED. THE GIVEN ROWS OF THIS SEAT. 12 by the template 'for every input the law returns true; each argument reads behind the call as it read before'; 0 by the template 'total and deterministic' (their statements: YtfjjopfeipggiaaTotals.lean).
  GIVEN WITH THE SEED: the statements are not yours to turn. If you find one false, say at which input.
  Laid BY PROGRAM, IN A SANDBOX (cutbox-rows.mjs): the forced cells as the released guide's own fill.sh prints them over the translation a42a2bf0de2f3f29… (all of the seat's roots in one cut). By AI agents, Wed Nov 11 2026. No macro, syntax, notation, axiom, sorry.
-/
import Derived.Test.YtfjjopfeipggiaaChecked
import GoSem.Claim
import GoSem.ClaimJoined
import GoSem.ClaimMapViews
import Derived.JoinedTies
import Derived.KernelRfl
namespace Go.Proofs.Ytfjjopfeipggiaa
/- THE CELL 'sum', in the pinned program and in every row, IS THE sha256 OF THE DUMP (.gsa) THAT YtfjjopfeipggiaaProg.lean LOADS. Nothing in Lean hashes anything: it is a label: what it is worth is what the hold of that sum in a sandbox is worth. -/
noncomputable def Try.pinned : Pinned := { name := "ytfjjopfeipggiaa", sum := "a42a2bf0de2f3f29e96dbfae672e6be50b886dc7e8824ef2e17cf2f849d67308", checked := Try.checked }
namespace Rows
def none {H : Type} : Left H := { results := [], args := [] }

/-- 'laws.FnExactEdgeIdeal': WHATEVER THE INPUT: true; the input reads as it did. -/
def fnExactEdgeIdealSpec : ChangeSpec := { name := "fnExactEdgeIdeal", fn := fun _ => fun
  | [d] => { results := [.lit (.bool true)], args := [d] }
  | _ => none }
def fnExactEdgeIdealRow : OpenClaim := { program := "ytfjjopfeipggiaa", sum := "a42a2bf0de2f3f29e96dbfae672e6be50b886dc7e8824ef2e17cf2f849d67308", func := "loop.example/g03100/laws.FnExactEdgeIdeal", spec := "fnExactEdgeIdeal", apart := false }
def FnExactEdgeIdealSaid : Prop := fnExactEdgeIdealRow.holds Try.pinned (OpenSpec.ofChange fnExactEdgeIdealSpec)

/-- ITS FALSE NEIGHBOUR: 'it returns false'. Refute it at one input. -/
def fnExactEdgeIdealWrong : ChangeSpec := { name := "fnExactEdgeIdeal", fn := fun _ => fun
  | [d] => { results := [.lit (.bool false)], args := [d] }
  | _ => none }
def FnExactEdgeIdealWrongFalsely : Prop := fnExactEdgeIdealRow.holds Try.pinned (OpenSpec.ofChange fnExactEdgeIdealWrong)

/-- 'laws.FnExactIsGenOrder': WHATEVER THE INPUT: true; the input reads as it did. -/
def fnExactIsGenOrderSpec : ChangeSpec := { name := "fnExactIsGenOrder", fn := fun _ => fun
  | [d1, d2] => { results := [.lit (.bool true)], args := [d1, d2] }
  | _ => none }
def fnExactIsGenOrderRow : OpenClaim := { program := "ytfjjopfeipggiaa", sum := "a42a2bf0de2f3f29e96dbfae672e6be50b886dc7e8824ef2e17cf2f849d67308", func := "loop.example/g03100/laws.FnExactIsGenOrder", spec := "fnExactIsGenOrder", apart := false }
def FnExactIsGenOrderSaid : Prop := fnExactIsGenOrderRow.holds Try.pinned (OpenSpec.ofChange fnExactIsGenOrderSpec)

/-- ITS FALSE NEIGHBOUR: 'it returns false'. Refute it at one input. -/
def fnExactIsGenOrderWrong : ChangeSpec := { name := "fnExactIsGenOrder", fn := fun _ => fun
  | [d1, d2] => { results := [.lit (.bool false)], args := [d1, d2] }
  | _ => none }
def FnExactIsGenOrderWrongFalsely : Prop := fnExactIsGenOrderRow.holds Try.pinned (OpenSpec.ofChange fnExactIsGenOrderWrong)

/-- 'laws.FnExactApartNumber': WHATEVER THE INPUT: true; the input reads as it did. -/
def fnExactApartNumberSpec : ChangeSpec := { name := "fnExactApartNumber", fn := fun _ => fun
  | [d] => { results := [.lit (.bool true)], args := [d] }
  | _ => none }
def fnExactApartNumberRow : OpenClaim := { program := "ytfjjopfeipggiaa", sum := "a42a2bf0de2f3f29e96dbfae672e6be50b886dc7e8824ef2e17cf2f849d67308", func := "loop.example/g03100/laws.FnExactApartNumber", spec := "fnExactApartNumber", unfollowed := true, recurses := true, apart := false }
def FnExactApartNumberSaid : Prop := fnExactApartNumberRow.holds Try.pinned (OpenSpec.ofChange fnExactApartNumberSpec)

/-- ITS FALSE NEIGHBOUR: 'it returns false'. Refute it at one input. -/
def fnExactApartNumberWrong : ChangeSpec := { name := "fnExactApartNumber", fn := fun _ => fun
  | [d] => { results := [.lit (.bool false)], args := [d] }
  | _ => none }
def FnExactApartNumberWrongFalsely : Prop := fnExactApartNumberRow.holds Try.pinned (OpenSpec.ofChange fnExactApartNumberWrong)

/-- 'laws.FnExactLeftPowers': WHATEVER THE INPUT: true; the input reads as it did. -/
def fnExactLeftPowersSpec : ChangeSpec := { name := "fnExactLeftPowers", fn := fun _ => fun
  | [d1, d2] => { results := [.lit (.bool true)], args := [d1, d2] }
  | _ => none }
def fnExactLeftPowersRow : OpenClaim := { program := "ytfjjopfeipggiaa", sum := "a42a2bf0de2f3f29e96dbfae672e6be50b886dc7e8824ef2e17cf2f849d67308", func := "loop.example/g03100/laws.FnExactLeftPowers", spec := "fnExactLeftPowers", recurses := true, apart := false }
def FnExactLeftPowersSaid : Prop := fnExactLeftPowersRow.holds Try.pinned (OpenSpec.ofChange fnExactLeftPowersSpec)

/-- ITS FALSE NEIGHBOUR: 'it returns false'. Refute it at one input. -/
def fnExactLeftPowersWrong : ChangeSpec := { name := "fnExactLeftPowers", fn := fun _ => fun
  | [d1, d2] => { results := [.lit (.bool false)], args := [d1, d2] }
  | _ => none }
def FnExactLeftPowersWrongFalsely : Prop := fnExactLeftPowersRow.holds Try.pinned (OpenSpec.ofChange fnExactLeftPowersWrong)

/-- 'laws.FnExactShellingOrder': WHATEVER THE INPUT: true; the input reads as it did. -/
def fnExactShellingOrderSpec : ChangeSpec := { name := "fnExactShellingOrder", fn := fun _ => fun
  | [d1, d2] => { results := [.lit (.bool true)], args := [d1, d2] }
  | _ => none }
def fnExactShellingOrderRow : OpenClaim := { program := "ytfjjopfeipggiaa", sum := "a42a2bf0de2f3f29e96dbfae672e6be50b886dc7e8824ef2e17cf2f849d67308", func := "loop.example/g03100/laws.FnExactShellingOrder", spec := "fnExactShellingOrder", apart := false }
def FnExactShellingOrderSaid : Prop := fnExactShellingOrderRow.holds Try.pinned (OpenSpec.ofChange fnExactShellingOrderSpec)

/-- ITS FALSE NEIGHBOUR: 'it returns false'. Refute it at one input. -/
def fnExactShellingOrderWrong : ChangeSpec := { name := "fnExactShellingOrder", fn := fun _ => fun
  | [d1, d2] => { results := [.lit (.bool false)], args := [d1, d2] }
  | _ => none }
def FnExactShellingOrderWrongFalsely : Prop := fnExactShellingOrderRow.holds Try.pinned (OpenSpec.ofChange fnExactShellingOrderWrong)

/-- 'laws.FnExactDividesByPoints': WHATEVER THE INPUT: true; the input reads as it did. -/
def fnExactDividesByPointsSpec : ChangeSpec := { name := "fnExactDividesByPoints", fn := fun _ => fun
  | [d1, d2] => { results := [.lit (.bool true)], args := [d1, d2] }
  | _ => none }
def fnExactDividesByPointsRow : OpenClaim := { program := "ytfjjopfeipggiaa", sum := "a42a2bf0de2f3f29e96dbfae672e6be50b886dc7e8824ef2e17cf2f849d67308", func := "loop.example/g03100/laws.FnExactDividesByPoints", spec := "fnExactDividesByPoints", apart := false }
def FnExactDividesByPointsSaid : Prop := fnExactDividesByPointsRow.holds Try.pinned (OpenSpec.ofChange fnExactDividesByPointsSpec)

/-- ITS FALSE NEIGHBOUR: 'it returns false'. Refute it at one input. -/
def fnExactDividesByPointsWrong : ChangeSpec := { name := "fnExactDividesByPoints", fn := fun _ => fun
  | [d1, d2] => { results := [.lit (.bool false)], args := [d1, d2] }
  | _ => none }
def FnExactDividesByPointsWrongFalsely : Prop := fnExactDividesByPointsRow.holds Try.pinned (OpenSpec.ofChange fnExactDividesByPointsWrong)

/-- 'laws.FnExactPowerSums': WHATEVER THE INPUT: true; the input reads as it did. -/
def fnExactPowerSumsSpec : ChangeSpec := { name := "fnExactPowerSums", fn := fun _ => fun
  | [d] => { results := [.lit (.bool true)], args := [d] }
  | _ => none }
def fnExactPowerSumsRow : OpenClaim := { program := "ytfjjopfeipggiaa", sum := "a42a2bf0de2f3f29e96dbfae672e6be50b886dc7e8824ef2e17cf2f849d67308", func := "loop.example/g03100/laws.FnExactPowerSums", spec := "fnExactPowerSums", apart := false }
def FnExactPowerSumsSaid : Prop := fnExactPowerSumsRow.holds Try.pinned (OpenSpec.ofChange fnExactPowerSumsSpec)

/-- ITS FALSE NEIGHBOUR: 'it returns false'. Refute it at one input. -/
def fnExactPowerSumsWrong : ChangeSpec := { name := "fnExactPowerSums", fn := fun _ => fun
  | [d] => { results := [.lit (.bool false)], args := [d] }
  | _ => none }
def FnExactPowerSumsWrongFalsely : Prop := fnExactPowerSumsRow.holds Try.pinned (OpenSpec.ofChange fnExactPowerSumsWrong)

/-- 'laws.FnExactVertexCovers': WHATEVER THE INPUT: true; the input reads as it did. -/
def fnExactVertexCoversSpec : ChangeSpec := { name := "fnExactVertexCovers", fn := fun _ => fun
  | [d] => { results := [.lit (.bool true)], args := [d] }
  | _ => none }
def fnExactVertexCoversRow : OpenClaim := { program := "ytfjjopfeipggiaa", sum := "a42a2bf0de2f3f29e96dbfae672e6be50b886dc7e8824ef2e17cf2f849d67308", func := "loop.example/g03100/laws.FnExactVertexCovers", spec := "fnExactVertexCovers", unfollowed := true, recurses := true, apart := false }
def FnExactVertexCoversSaid : Prop := fnExactVertexCoversRow.holds Try.pinned (OpenSpec.ofChange fnExactVertexCoversSpec)

/-- ITS FALSE NEIGHBOUR: 'it returns false'. Refute it at one input. -/
def fnExactVertexCoversWrong : ChangeSpec := { name := "fnExactVertexCovers", fn := fun _ => fun
  | [d] => { results := [.lit (.bool false)], args := [d] }
  | _ => none }
def FnExactVertexCoversWrongFalsely : Prop := fnExactVertexCoversRow.holds Try.pinned (OpenSpec.ofChange fnExactVertexCoversWrong)

/-- 'laws.FnExactMakePowers': WHATEVER THE INPUT: true; the input reads as it did. -/
def fnExactMakePowersSpec : ChangeSpec := { name := "fnExactMakePowers", fn := fun _ => fun
  | [d] => { results := [.lit (.bool true)], args := [d] }
  | _ => none }
def fnExactMakePowersRow : OpenClaim := { program := "ytfjjopfeipggiaa", sum := "a42a2bf0de2f3f29e96dbfae672e6be50b886dc7e8824ef2e17cf2f849d67308", func := "loop.example/g03100/laws.FnExactMakePowers", spec := "fnExactMakePowers", apart := false }
def FnExactMakePowersSaid : Prop := fnExactMakePowersRow.holds Try.pinned (OpenSpec.ofChange fnExactMakePowersSpec)

/-- ITS FALSE NEIGHBOUR: 'it returns false'. Refute it at one input. -/
def fnExactMakePowersWrong : ChangeSpec := { name := "fnExactMakePowers", fn := fun _ => fun
  | [d] => { results := [.lit (.bool false)], args := [d] }
  | _ => none }
def FnExactMakePowersWrongFalsely : Prop := fnExactMakePowersRow.holds Try.pinned (OpenSpec.ofChange fnExactMakePowersWrong)

/-- 'laws.FnExactPointsBefore': WHATEVER THE INPUT: true; the input reads as it did. -/
def fnExactPointsBeforeSpec : ChangeSpec := { name := "fnExactPointsBefore", fn := fun _ => fun
  | [d1, d2] => { results := [.lit (.bool true)], args := [d1, d2] }
  | _ => none }
def fnExactPointsBeforeRow : OpenClaim := { program := "ytfjjopfeipggiaa", sum := "a42a2bf0de2f3f29e96dbfae672e6be50b886dc7e8824ef2e17cf2f849d67308", func := "loop.example/g03100/laws.FnExactPointsBefore", spec := "fnExactPointsBefore", apart := false }
def FnExactPointsBeforeSaid : Prop := fnExactPointsBeforeRow.holds Try.pinned (OpenSpec.ofChange fnExactPointsBeforeSpec)

/-- ITS FALSE NEIGHBOUR: 'it returns false'. Refute it at one input. -/
def fnExactPointsBeforeWrong : ChangeSpec := { name := "fnExactPointsBefore", fn := fun _ => fun
  | [d1, d2] => { results := [.lit (.bool false)], args := [d1, d2] }
  | _ => none }
def FnExactPointsBeforeWrongFalsely : Prop := fnExactPointsBeforeRow.holds Try.pinned (OpenSpec.ofChange fnExactPointsBeforeWrong)

/-- 'laws.FnExactExampleComplex': WHATEVER THE INPUT: true; the input reads as it did. -/
def fnExactExampleComplexSpec : ChangeSpec := { name := "fnExactExampleComplex", fn := fun _ => fun
  | [d] => { results := [.lit (.bool true)], args := [d] }
  | _ => none }
def fnExactExampleComplexRow : OpenClaim := { program := "ytfjjopfeipggiaa", sum := "a42a2bf0de2f3f29e96dbfae672e6be50b886dc7e8824ef2e17cf2f849d67308", func := "loop.example/g03100/laws.FnExactExampleComplex", spec := "fnExactExampleComplex", apart := false }
def FnExactExampleComplexSaid : Prop := fnExactExampleComplexRow.holds Try.pinned (OpenSpec.ofChange fnExactExampleComplexSpec)

/-- ITS FALSE NEIGHBOUR: 'it returns false'. Refute it at one input. -/
def fnExactExampleComplexWrong : ChangeSpec := { name := "fnExactExampleComplex", fn := fun _ => fun
  | [d] => { results := [.lit (.bool false)], args := [d] }
  | _ => none }
def FnExactExampleComplexWrongFalsely : Prop := fnExactExampleComplexRow.holds Try.pinned (OpenSpec.ofChange fnExactExampleComplexWrong)

/-- 'laws.FnExactSumsFromOrder': WHATEVER THE INPUT: true; the input reads as it did. -/
def fnExactSumsFromOrderSpec : ChangeSpec := { name := "fnExactSumsFromOrder", fn := fun _ => fun
  | [d1, d2] => { results := [.lit (.bool true)], args := [d1, d2] }
  | _ => none }
def fnExactSumsFromOrderRow : OpenClaim := { program := "ytfjjopfeipggiaa", sum := "a42a2bf0de2f3f29e96dbfae672e6be50b886dc7e8824ef2e17cf2f849d67308", func := "loop.example/g03100/laws.FnExactSumsFromOrder", spec := "fnExactSumsFromOrder", apart := false }
def FnExactSumsFromOrderSaid : Prop := fnExactSumsFromOrderRow.holds Try.pinned (OpenSpec.ofChange fnExactSumsFromOrderSpec)

/-- ITS FALSE NEIGHBOUR: 'it returns false'. Refute it at one input. -/
def fnExactSumsFromOrderWrong : ChangeSpec := { name := "fnExactSumsFromOrder", fn := fun _ => fun
  | [d1, d2] => { results := [.lit (.bool false)], args := [d1, d2] }
  | _ => none }
def FnExactSumsFromOrderWrongFalsely : Prop := fnExactSumsFromOrderRow.holds Try.pinned (OpenSpec.ofChange fnExactSumsFromOrderWrong)

/- THE SECOND FORM. 'bulk': how many values and letters a reading holds, each counted each time it is reached (what is shared counts as often as it is met; a slice's spare places count too). A statement '..UptoSaid' is the law's where the arguments, and the package variables that the reading takes, are together of bulk at most 1048576: NARROWER than '..Said'. Prove '..Said' where nothing that the law and all that it calls make is longer than what came in: it says more and counts as full. Else prove '..UptoSaid'. A law counts once. -/
mutual
def uptoBulk {H : Type} : DataW H → Nat
  | .lit (.string bytes) => bytes.length + 1
  | .lit _ => 1
  | .nil => 1
  | .ptr d => uptoBulk d + 1
  | .slice elems spare => uptoBulkAll elems + uptoBulkAll spare + 1
  | .agg parts => uptoBulkAll parts + 1
  | .iface _ d => uptoBulk d + 1
  | .map entries => uptoBulkEntries entries + 1
  | .held _ => 1
def uptoBulkAll {H : Type} : List (DataW H) → Nat
  | [] => 0
  | d :: r => uptoBulk d + uptoBulkAll r
def uptoBulkEntries {H : Type} : List (Lit × DataW H) → Nat
  | [] => 0
  | x :: r => uptoBulkEntry x + uptoBulkEntries r
def uptoBulkEntry {H : Type} : Lit × DataW H → Nat
  | (.string bytes, d) => bytes.length + uptoBulk d + 1
  | (_, d) => uptoBulk d + 1
 end
def uptoSmall : (H : Type) → List (DataW H) → Bool := fun _ ds => decide (uptoBulkAll ds ≤ 1048576)
def OpenSpec.upto (s : _root_.Go.ChangeSpec) : _root_.Go.OpenSpec := { _root_.Go.OpenSpec.ofChange s with cond := some uptoSmall }

/-- 'laws.FnExactEdgeIdeal', WHERE WHAT IT READS IS OF BULK AT MOST 1048576: true; the input reads as it did. -/
def fnExactEdgeIdealUptoRow : OpenClaim := { program := "ytfjjopfeipggiaa", sum := "a42a2bf0de2f3f29e96dbfae672e6be50b886dc7e8824ef2e17cf2f849d67308", func := "loop.example/g03100/laws.FnExactEdgeIdeal", spec := "fnExactEdgeIdeal", apart := false, narrowed := true }
def FnExactEdgeIdealUptoSaid : Prop := fnExactEdgeIdealUptoRow.holds Try.pinned (OpenSpec.upto fnExactEdgeIdealSpec)

/-- 'laws.FnExactIsGenOrder', WHERE WHAT IT READS IS OF BULK AT MOST 1048576: true; the input reads as it did. -/
def fnExactIsGenOrderUptoRow : OpenClaim := { program := "ytfjjopfeipggiaa", sum := "a42a2bf0de2f3f29e96dbfae672e6be50b886dc7e8824ef2e17cf2f849d67308", func := "loop.example/g03100/laws.FnExactIsGenOrder", spec := "fnExactIsGenOrder", apart := false, narrowed := true }
def FnExactIsGenOrderUptoSaid : Prop := fnExactIsGenOrderUptoRow.holds Try.pinned (OpenSpec.upto fnExactIsGenOrderSpec)

/-- 'laws.FnExactApartNumber', WHERE WHAT IT READS IS OF BULK AT MOST 1048576: true; the input reads as it did. -/
def fnExactApartNumberUptoRow : OpenClaim := { program := "ytfjjopfeipggiaa", sum := "a42a2bf0de2f3f29e96dbfae672e6be50b886dc7e8824ef2e17cf2f849d67308", func := "loop.example/g03100/laws.FnExactApartNumber", spec := "fnExactApartNumber", unfollowed := true, recurses := true, apart := false, narrowed := true }
def FnExactApartNumberUptoSaid : Prop := fnExactApartNumberUptoRow.holds Try.pinned (OpenSpec.upto fnExactApartNumberSpec)

/-- 'laws.FnExactLeftPowers', WHERE WHAT IT READS IS OF BULK AT MOST 1048576: true; the input reads as it did. -/
def fnExactLeftPowersUptoRow : OpenClaim := { program := "ytfjjopfeipggiaa", sum := "a42a2bf0de2f3f29e96dbfae672e6be50b886dc7e8824ef2e17cf2f849d67308", func := "loop.example/g03100/laws.FnExactLeftPowers", spec := "fnExactLeftPowers", recurses := true, apart := false, narrowed := true }
def FnExactLeftPowersUptoSaid : Prop := fnExactLeftPowersUptoRow.holds Try.pinned (OpenSpec.upto fnExactLeftPowersSpec)

/-- 'laws.FnExactShellingOrder', WHERE WHAT IT READS IS OF BULK AT MOST 1048576: true; the input reads as it did. -/
def fnExactShellingOrderUptoRow : OpenClaim := { program := "ytfjjopfeipggiaa", sum := "a42a2bf0de2f3f29e96dbfae672e6be50b886dc7e8824ef2e17cf2f849d67308", func := "loop.example/g03100/laws.FnExactShellingOrder", spec := "fnExactShellingOrder", apart := false, narrowed := true }
def FnExactShellingOrderUptoSaid : Prop := fnExactShellingOrderUptoRow.holds Try.pinned (OpenSpec.upto fnExactShellingOrderSpec)

/-- 'laws.FnExactDividesByPoints', WHERE WHAT IT READS IS OF BULK AT MOST 1048576: true; the input reads as it did. -/
def fnExactDividesByPointsUptoRow : OpenClaim := { program := "ytfjjopfeipggiaa", sum := "a42a2bf0de2f3f29e96dbfae672e6be50b886dc7e8824ef2e17cf2f849d67308", func := "loop.example/g03100/laws.FnExactDividesByPoints", spec := "fnExactDividesByPoints", apart := false, narrowed := true }
def FnExactDividesByPointsUptoSaid : Prop := fnExactDividesByPointsUptoRow.holds Try.pinned (OpenSpec.upto fnExactDividesByPointsSpec)

/-- 'laws.FnExactPowerSums', WHERE WHAT IT READS IS OF BULK AT MOST 1048576: true; the input reads as it did. -/
def fnExactPowerSumsUptoRow : OpenClaim := { program := "ytfjjopfeipggiaa", sum := "a42a2bf0de2f3f29e96dbfae672e6be50b886dc7e8824ef2e17cf2f849d67308", func := "loop.example/g03100/laws.FnExactPowerSums", spec := "fnExactPowerSums", apart := false, narrowed := true }
def FnExactPowerSumsUptoSaid : Prop := fnExactPowerSumsUptoRow.holds Try.pinned (OpenSpec.upto fnExactPowerSumsSpec)

/-- 'laws.FnExactVertexCovers', WHERE WHAT IT READS IS OF BULK AT MOST 1048576: true; the input reads as it did. -/
def fnExactVertexCoversUptoRow : OpenClaim := { program := "ytfjjopfeipggiaa", sum := "a42a2bf0de2f3f29e96dbfae672e6be50b886dc7e8824ef2e17cf2f849d67308", func := "loop.example/g03100/laws.FnExactVertexCovers", spec := "fnExactVertexCovers", unfollowed := true, recurses := true, apart := false, narrowed := true }
def FnExactVertexCoversUptoSaid : Prop := fnExactVertexCoversUptoRow.holds Try.pinned (OpenSpec.upto fnExactVertexCoversSpec)

/-- 'laws.FnExactMakePowers', WHERE WHAT IT READS IS OF BULK AT MOST 1048576: true; the input reads as it did. -/
def fnExactMakePowersUptoRow : OpenClaim := { program := "ytfjjopfeipggiaa", sum := "a42a2bf0de2f3f29e96dbfae672e6be50b886dc7e8824ef2e17cf2f849d67308", func := "loop.example/g03100/laws.FnExactMakePowers", spec := "fnExactMakePowers", apart := false, narrowed := true }
def FnExactMakePowersUptoSaid : Prop := fnExactMakePowersUptoRow.holds Try.pinned (OpenSpec.upto fnExactMakePowersSpec)

/-- 'laws.FnExactPointsBefore', WHERE WHAT IT READS IS OF BULK AT MOST 1048576: true; the input reads as it did. -/
def fnExactPointsBeforeUptoRow : OpenClaim := { program := "ytfjjopfeipggiaa", sum := "a42a2bf0de2f3f29e96dbfae672e6be50b886dc7e8824ef2e17cf2f849d67308", func := "loop.example/g03100/laws.FnExactPointsBefore", spec := "fnExactPointsBefore", apart := false, narrowed := true }
def FnExactPointsBeforeUptoSaid : Prop := fnExactPointsBeforeUptoRow.holds Try.pinned (OpenSpec.upto fnExactPointsBeforeSpec)

/-- 'laws.FnExactExampleComplex', WHERE WHAT IT READS IS OF BULK AT MOST 1048576: true; the input reads as it did. -/
def fnExactExampleComplexUptoRow : OpenClaim := { program := "ytfjjopfeipggiaa", sum := "a42a2bf0de2f3f29e96dbfae672e6be50b886dc7e8824ef2e17cf2f849d67308", func := "loop.example/g03100/laws.FnExactExampleComplex", spec := "fnExactExampleComplex", apart := false, narrowed := true }
def FnExactExampleComplexUptoSaid : Prop := fnExactExampleComplexUptoRow.holds Try.pinned (OpenSpec.upto fnExactExampleComplexSpec)

/-- 'laws.FnExactSumsFromOrder', WHERE WHAT IT READS IS OF BULK AT MOST 1048576: true; the input reads as it did. -/
def fnExactSumsFromOrderUptoRow : OpenClaim := { program := "ytfjjopfeipggiaa", sum := "a42a2bf0de2f3f29e96dbfae672e6be50b886dc7e8824ef2e17cf2f849d67308", func := "loop.example/g03100/laws.FnExactSumsFromOrder", spec := "fnExactSumsFromOrder", apart := false, narrowed := true }
def FnExactSumsFromOrderUptoSaid : Prop := fnExactSumsFromOrderUptoRow.holds Try.pinned (OpenSpec.upto fnExactSumsFromOrderSpec)

end Rows
end Go.Proofs.Ytfjjopfeipggiaa
