/-
  No cell of these rows narrows 'for every input' (looked for: loops, veiled, ifaces, maps, wideKeys, modest, calm, conditions, laid).
  DERIVED. THE GIVEN ROWS OF THIS SEAT. 6 by the template 'for every input the law returns true; each argument reads behind the call as it read before'; 0 by the template 'total and deterministic' (their statements: YtnkiinneeobmhaaTotals.lean).
  GIVEN WITH THE SEED: the statements are not yours to turn. If you find one false, say at which input.
  Laid BY PROGRAM, IN A SANDBOX (cutbox-rows.mjs): the forced cells as the released guide's own fill.sh prints them over the translation eb2b89fc44ed430f… (all of the seat's roots in one cut). By AI agents, Wed Nov 11 2026. No macro, syntax, notation, axiom, sorry.
-/
import Derived.Test.YtnkiinneeobmhaaChecked
import GoSem.Claim
import GoSem.ClaimJoined
import GoSem.ClaimMapViews
import Derived.JoinedTies
import Derived.KernelRfl
namespace Go.Proofs.Ytnkiinneeobmhaa
/- THE CELL 'sum', in the pinned program and in every row, IS THE sha256 OF THE DUMP (.gsa) THAT YtnkiinneeobmhaaProg.lean LOADS. Nothing in Lean hashes anything: it is a label: what it is worth is what the hold of that sum in a sandbox is worth. -/
noncomputable def Try.pinned : Pinned := { name := "ytnkiinneeobmhaa", sum := "eb2b89fc44ed430fa3ba4d788588058b651a3f8e44f18e7968a99fa7331220ec", checked := Try.checked }
namespace Rows
def none {H : Type} : Left H := { results := [], args := [] }

/-- 'laws.FnExactCountExamples': WHATEVER THE INPUT: true; the input reads as it did. -/
def fnExactCountExamplesSpec : ChangeSpec := { name := "fnExactCountExamples", fn := fun _ => fun
  | [] => { results := [.lit (.bool true)], args := [] }
  | _ => none }
def fnExactCountExamplesRow : OpenClaim := { program := "ytnkiinneeobmhaa", sum := "eb2b89fc44ed430fa3ba4d788588058b651a3f8e44f18e7968a99fa7331220ec", func := "loop.example/g03100/laws.FnExactCountExamples", spec := "fnExactCountExamples", apart := false }
def FnExactCountExamplesSaid : Prop := fnExactCountExamplesRow.holds Try.pinned (OpenSpec.ofChange fnExactCountExamplesSpec)

/-- ITS FALSE NEIGHBOUR: 'it returns false'. Refute it at one input. -/
def fnExactCountExamplesWrong : ChangeSpec := { name := "fnExactCountExamples", fn := fun _ => fun
  | [] => { results := [.lit (.bool false)], args := [] }
  | _ => none }
def FnExactCountExamplesWrongFalsely : Prop := fnExactCountExamplesRow.holds Try.pinned (OpenSpec.ofChange fnExactCountExamplesWrong)

/-- 'laws.FnExactExampleText': WHATEVER THE INPUT: true; the input reads as it did. -/
def fnExactExampleTextSpec : ChangeSpec := { name := "fnExactExampleText", fn := fun _ => fun
  | [d] => { results := [.lit (.bool true)], args := [d] }
  | _ => none }
def fnExactExampleTextRow : OpenClaim := { program := "ytnkiinneeobmhaa", sum := "eb2b89fc44ed430fa3ba4d788588058b651a3f8e44f18e7968a99fa7331220ec", func := "loop.example/g03100/laws.FnExactExampleText", spec := "fnExactExampleText", apart := false }
def FnExactExampleTextSaid : Prop := fnExactExampleTextRow.holds Try.pinned (OpenSpec.ofChange fnExactExampleTextSpec)

/-- ITS FALSE NEIGHBOUR: 'it returns false'. Refute it at one input. -/
def fnExactExampleTextWrong : ChangeSpec := { name := "fnExactExampleText", fn := fun _ => fun
  | [d] => { results := [.lit (.bool false)], args := [d] }
  | _ => none }
def FnExactExampleTextWrongFalsely : Prop := fnExactExampleTextRow.holds Try.pinned (OpenSpec.ofChange fnExactExampleTextWrong)

/-- 'laws.FnExactEqualSession': WHATEVER THE INPUT: true; the input reads as it did. -/
def fnExactEqualSessionSpec : ChangeSpec := { name := "fnExactEqualSession", fn := fun _ => fun
  | [d1, d2] => { results := [.lit (.bool true)], args := [d1, d2] }
  | _ => none }
def fnExactEqualSessionRow : OpenClaim := { program := "ytnkiinneeobmhaa", sum := "eb2b89fc44ed430fa3ba4d788588058b651a3f8e44f18e7968a99fa7331220ec", func := "loop.example/g03100/laws.FnExactEqualSession", spec := "fnExactEqualSession", apart := false }
def FnExactEqualSessionSaid : Prop := fnExactEqualSessionRow.holds Try.pinned (OpenSpec.ofChange fnExactEqualSessionSpec)

/-- ITS FALSE NEIGHBOUR: 'it returns false'. Refute it at one input. -/
def fnExactEqualSessionWrong : ChangeSpec := { name := "fnExactEqualSession", fn := fun _ => fun
  | [d1, d2] => { results := [.lit (.bool false)], args := [d1, d2] }
  | _ => none }
def FnExactEqualSessionWrongFalsely : Prop := fnExactEqualSessionRow.holds Try.pinned (OpenSpec.ofChange fnExactEqualSessionWrong)

/-- 'laws.FnExactArePowers': WHATEVER THE INPUT: true; the input reads as it did. -/
def fnExactArePowersSpec : ChangeSpec := { name := "fnExactArePowers", fn := fun _ => fun
  | [d] => { results := [.lit (.bool true)], args := [d] }
  | _ => none }
def fnExactArePowersRow : OpenClaim := { program := "ytnkiinneeobmhaa", sum := "eb2b89fc44ed430fa3ba4d788588058b651a3f8e44f18e7968a99fa7331220ec", func := "loop.example/g03100/laws.FnExactArePowers", spec := "fnExactArePowers", apart := false }
def FnExactArePowersSaid : Prop := fnExactArePowersRow.holds Try.pinned (OpenSpec.ofChange fnExactArePowersSpec)

/-- ITS FALSE NEIGHBOUR: 'it returns false'. Refute it at one input. -/
def fnExactArePowersWrong : ChangeSpec := { name := "fnExactArePowers", fn := fun _ => fun
  | [d] => { results := [.lit (.bool false)], args := [d] }
  | _ => none }
def FnExactArePowersWrongFalsely : Prop := fnExactArePowersRow.holds Try.pinned (OpenSpec.ofChange fnExactArePowersWrong)

/-- 'laws.FnExactMatchNumber': WHATEVER THE INPUT: true; the input reads as it did. -/
def fnExactMatchNumberSpec : ChangeSpec := { name := "fnExactMatchNumber", fn := fun _ => fun
  | [d] => { results := [.lit (.bool true)], args := [d] }
  | _ => none }
def fnExactMatchNumberRow : OpenClaim := { program := "ytnkiinneeobmhaa", sum := "eb2b89fc44ed430fa3ba4d788588058b651a3f8e44f18e7968a99fa7331220ec", func := "loop.example/g03100/laws.FnExactMatchNumber", spec := "fnExactMatchNumber", unfollowed := true, recurses := true, apart := false }
def FnExactMatchNumberSaid : Prop := fnExactMatchNumberRow.holds Try.pinned (OpenSpec.ofChange fnExactMatchNumberSpec)

/-- ITS FALSE NEIGHBOUR: 'it returns false'. Refute it at one input. -/
def fnExactMatchNumberWrong : ChangeSpec := { name := "fnExactMatchNumber", fn := fun _ => fun
  | [d] => { results := [.lit (.bool false)], args := [d] }
  | _ => none }
def FnExactMatchNumberWrongFalsely : Prop := fnExactMatchNumberRow.holds Try.pinned (OpenSpec.ofChange fnExactMatchNumberWrong)

/-- 'laws.FnExactEdgeIdeal': WHATEVER THE INPUT: true; the input reads as it did. -/
def fnExactEdgeIdealSpec : ChangeSpec := { name := "fnExactEdgeIdeal", fn := fun _ => fun
  | [d] => { results := [.lit (.bool true)], args := [d] }
  | _ => none }
def fnExactEdgeIdealRow : OpenClaim := { program := "ytnkiinneeobmhaa", sum := "eb2b89fc44ed430fa3ba4d788588058b651a3f8e44f18e7968a99fa7331220ec", func := "loop.example/g03100/laws.FnExactEdgeIdeal", spec := "fnExactEdgeIdeal", apart := false }
def FnExactEdgeIdealSaid : Prop := fnExactEdgeIdealRow.holds Try.pinned (OpenSpec.ofChange fnExactEdgeIdealSpec)

/-- ITS FALSE NEIGHBOUR: 'it returns false'. Refute it at one input. -/
def fnExactEdgeIdealWrong : ChangeSpec := { name := "fnExactEdgeIdeal", fn := fun _ => fun
  | [d] => { results := [.lit (.bool false)], args := [d] }
  | _ => none }
def FnExactEdgeIdealWrongFalsely : Prop := fnExactEdgeIdealRow.holds Try.pinned (OpenSpec.ofChange fnExactEdgeIdealWrong)

/- THE SECOND FORM. 'bulk': how many values and letters a reading holds, each counted each time it is reached (what is shared counts as often as it is met; a slice's spare places count too). A statement '..UptoSaid' is the law's where the arguments, and the package variables that the reading takes, are together of bulk at most 1048576: NARROWER than '..Said'. Prove '..Said' where nothing that the law and all that it calls make is longer than what came in: it says more and counts as full. Else prove '..UptoSaid'. A law counts once. -/
mutual
def uptoBulk {H : Type} : DataW H → Nat
  | .lit (.string bytes) => bytes.length + 1
  | .lit _ => 1
  | .nil => 1
  | .ptr d => uptoBulk d + 1
  | .slice elems spare => uptoBulkAll elems + uptoBulkAll spare + 1
  | .agg parts => uptoBulkAll parts + 1
  | .iface _ d => uptoBulk d + 1
  | .map entries => uptoBulkEntries entries + 1
  | .held _ => 1
def uptoBulkAll {H : Type} : List (DataW H) → Nat
  | [] => 0
  | d :: r => uptoBulk d + uptoBulkAll r
def uptoBulkEntries {H : Type} : List (Lit × DataW H) → Nat
  | [] => 0
  | x :: r => uptoBulkEntry x + uptoBulkEntries r
def uptoBulkEntry {H : Type} : Lit × DataW H → Nat
  | (.string bytes, d) => bytes.length + uptoBulk d + 1
  | (_, d) => uptoBulk d + 1
 end
def uptoSmall : (H : Type) → List (DataW H) → Bool := fun _ ds => decide (uptoBulkAll ds ≤ 1048576)
def OpenSpec.upto (s : _root_.Go.ChangeSpec) : _root_.Go.OpenSpec := { _root_.Go.OpenSpec.ofChange s with cond := some uptoSmall }

/-- 'laws.FnExactCountExamples', WHERE WHAT IT READS IS OF BULK AT MOST 1048576: true; the input reads as it did. -/
def fnExactCountExamplesUptoRow : OpenClaim := { program := "ytnkiinneeobmhaa", sum := "eb2b89fc44ed430fa3ba4d788588058b651a3f8e44f18e7968a99fa7331220ec", func := "loop.example/g03100/laws.FnExactCountExamples", spec := "fnExactCountExamples", apart := false, narrowed := true }
def FnExactCountExamplesUptoSaid : Prop := fnExactCountExamplesUptoRow.holds Try.pinned (OpenSpec.upto fnExactCountExamplesSpec)

/-- 'laws.FnExactExampleText', WHERE WHAT IT READS IS OF BULK AT MOST 1048576: true; the input reads as it did. -/
def fnExactExampleTextUptoRow : OpenClaim := { program := "ytnkiinneeobmhaa", sum := "eb2b89fc44ed430fa3ba4d788588058b651a3f8e44f18e7968a99fa7331220ec", func := "loop.example/g03100/laws.FnExactExampleText", spec := "fnExactExampleText", apart := false, narrowed := true }
def FnExactExampleTextUptoSaid : Prop := fnExactExampleTextUptoRow.holds Try.pinned (OpenSpec.upto fnExactExampleTextSpec)

/-- 'laws.FnExactEqualSession', WHERE WHAT IT READS IS OF BULK AT MOST 1048576: true; the input reads as it did. -/
def fnExactEqualSessionUptoRow : OpenClaim := { program := "ytnkiinneeobmhaa", sum := "eb2b89fc44ed430fa3ba4d788588058b651a3f8e44f18e7968a99fa7331220ec", func := "loop.example/g03100/laws.FnExactEqualSession", spec := "fnExactEqualSession", apart := false, narrowed := true }
def FnExactEqualSessionUptoSaid : Prop := fnExactEqualSessionUptoRow.holds Try.pinned (OpenSpec.upto fnExactEqualSessionSpec)

/-- 'laws.FnExactArePowers', WHERE WHAT IT READS IS OF BULK AT MOST 1048576: true; the input reads as it did. -/
def fnExactArePowersUptoRow : OpenClaim := { program := "ytnkiinneeobmhaa", sum := "eb2b89fc44ed430fa3ba4d788588058b651a3f8e44f18e7968a99fa7331220ec", func := "loop.example/g03100/laws.FnExactArePowers", spec := "fnExactArePowers", apart := false, narrowed := true }
def FnExactArePowersUptoSaid : Prop := fnExactArePowersUptoRow.holds Try.pinned (OpenSpec.upto fnExactArePowersSpec)

/-- 'laws.FnExactMatchNumber', WHERE WHAT IT READS IS OF BULK AT MOST 1048576: true; the input reads as it did. -/
def fnExactMatchNumberUptoRow : OpenClaim := { program := "ytnkiinneeobmhaa", sum := "eb2b89fc44ed430fa3ba4d788588058b651a3f8e44f18e7968a99fa7331220ec", func := "loop.example/g03100/laws.FnExactMatchNumber", spec := "fnExactMatchNumber", unfollowed := true, recurses := true, apart := false, narrowed := true }
def FnExactMatchNumberUptoSaid : Prop := fnExactMatchNumberUptoRow.holds Try.pinned (OpenSpec.upto fnExactMatchNumberSpec)

/-- 'laws.FnExactEdgeIdeal', WHERE WHAT IT READS IS OF BULK AT MOST 1048576: true; the input reads as it did. -/
def fnExactEdgeIdealUptoRow : OpenClaim := { program := "ytnkiinneeobmhaa", sum := "eb2b89fc44ed430fa3ba4d788588058b651a3f8e44f18e7968a99fa7331220ec", func := "loop.example/g03100/laws.FnExactEdgeIdeal", spec := "fnExactEdgeIdeal", apart := false, narrowed := true }
def FnExactEdgeIdealUptoSaid : Prop := fnExactEdgeIdealUptoRow.holds Try.pinned (OpenSpec.upto fnExactEdgeIdealSpec)

end Rows
end Go.Proofs.Ytnkiinneeobmhaa
