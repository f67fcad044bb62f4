/-
  No cell of these rows narrows 'for every input' (looked for: loops, veiled, ifaces, maps, wideKeys, modest, calm, conditions, laid).
  DERIVED. THE GIVEN ROWS OF THIS SEAT. 11 by the template 'for every input the law returns true; each argument reads behind the call as it read before'; 0 by the template 'total and deterministic' (their statements: YtlapkhmehcnjeaaTotals.lean).
  GIVEN WITH THE SEED: the statements are not yours to turn. If you find one false, say at which input.
  Laid BY PROGRAM, IN A SANDBOX (cutbox-rows.mjs): the forced cells as the released guide's own fill.sh prints them over the translation fe6be95034500857… (all of the seat's roots in one cut). By AI agents, Wed Nov 11 2026. No macro, syntax, notation, axiom, sorry.
-/
import Derived.Test.YtlapkhmehcnjeaaChecked
import GoSem.Claim
import GoSem.ClaimJoined
import GoSem.ClaimMapViews
import Derived.JoinedTies
import Derived.KernelRfl
namespace Go.Proofs.Ytlapkhmehcnjeaa
/- THE CELL 'sum', in the pinned program and in every row, IS THE sha256 OF THE DUMP (.gsa) THAT YtlapkhmehcnjeaaProg.lean LOADS. Nothing in Lean hashes anything: it is a label: what it is worth is what the hold of that sum in a sandbox is worth. -/
noncomputable def Try.pinned : Pinned := { name := "ytlapkhmehcnjeaa", sum := "fe6be95034500857ab2dc321bcdf4bbb9fdb0c0ea1d728b0c966b239596c77c0", checked := Try.checked }
namespace Rows
def none {H : Type} : Left H := { results := [], args := [] }

/-- 'laws.FnExactNewSession': WHATEVER THE INPUT: true; the input reads as it did. -/
def fnExactNewSessionSpec : ChangeSpec := { name := "fnExactNewSession", fn := fun _ => fun
  | [] => { results := [.lit (.bool true)], args := [] }
  | _ => none }
def fnExactNewSessionRow : OpenClaim := { program := "ytlapkhmehcnjeaa", sum := "fe6be95034500857ab2dc321bcdf4bbb9fdb0c0ea1d728b0c966b239596c77c0", func := "loop.example/g03100/laws.FnExactNewSession", spec := "fnExactNewSession", apart := false }
def FnExactNewSessionSaid : Prop := fnExactNewSessionRow.holds Try.pinned (OpenSpec.ofChange fnExactNewSessionSpec)

/-- ITS FALSE NEIGHBOUR: 'it returns false'. Refute it at one input. -/
def fnExactNewSessionWrong : ChangeSpec := { name := "fnExactNewSession", fn := fun _ => fun
  | [] => { results := [.lit (.bool false)], args := [] }
  | _ => none }
def FnExactNewSessionWrongFalsely : Prop := fnExactNewSessionRow.holds Try.pinned (OpenSpec.ofChange fnExactNewSessionWrong)

/-- 'laws.FnExactMissingText': WHATEVER THE INPUT: true; the input reads as it did. -/
def fnExactMissingTextSpec : ChangeSpec := { name := "fnExactMissingText", fn := fun _ => fun
  | [d] => { results := [.lit (.bool true)], args := [d] }
  | _ => none }
def fnExactMissingTextRow : OpenClaim := { program := "ytlapkhmehcnjeaa", sum := "fe6be95034500857ab2dc321bcdf4bbb9fdb0c0ea1d728b0c966b239596c77c0", func := "loop.example/g03100/laws.FnExactMissingText", spec := "fnExactMissingText", inPlace := ["internal/abi.NoEscape", "internal/bytealg.MakeNoZero"], unfollowed := true, recurses := true, apart := false }
def FnExactMissingTextSaid : Prop := fnExactMissingTextRow.holds Try.pinned (OpenSpec.ofChange fnExactMissingTextSpec)

/-- ITS FALSE NEIGHBOUR: 'it returns false'. Refute it at one input. -/
def fnExactMissingTextWrong : ChangeSpec := { name := "fnExactMissingText", fn := fun _ => fun
  | [d] => { results := [.lit (.bool false)], args := [d] }
  | _ => none }
def FnExactMissingTextWrongFalsely : Prop := fnExactMissingTextRow.holds Try.pinned (OpenSpec.ofChange fnExactMissingTextWrong)

/-- 'laws.FnExactBettiAt': WHATEVER THE INPUT: true; the input reads as it did. -/
def fnExactBettiAtSpec : ChangeSpec := { name := "fnExactBettiAt", fn := fun _ => fun
  | [d1, d2, d3, d4] => { results := [.lit (.bool true)], args := [d1, d2, d3, d4] }
  | _ => none }
def fnExactBettiAtRow : OpenClaim := { program := "ytlapkhmehcnjeaa", sum := "fe6be95034500857ab2dc321bcdf4bbb9fdb0c0ea1d728b0c966b239596c77c0", func := "loop.example/g03100/laws.FnExactBettiAt", spec := "fnExactBettiAt", apart := false }
def FnExactBettiAtSaid : Prop := fnExactBettiAtRow.holds Try.pinned (OpenSpec.ofChange fnExactBettiAtSpec)

/-- ITS FALSE NEIGHBOUR: 'it returns false'. Refute it at one input. -/
def fnExactBettiAtWrong : ChangeSpec := { name := "fnExactBettiAt", fn := fun _ => fun
  | [d1, d2, d3, d4] => { results := [.lit (.bool false)], args := [d1, d2, d3, d4] }
  | _ => none }
def FnExactBettiAtWrongFalsely : Prop := fnExactBettiAtRow.holds Try.pinned (OpenSpec.ofChange fnExactBettiAtWrong)

/-- 'laws.FnExactHasLinear': WHATEVER THE INPUT: true; the input reads as it did. -/
def fnExactHasLinearSpec : ChangeSpec := { name := "fnExactHasLinear", fn := fun _ => fun
  | [d1, d2, d3] => { results := [.lit (.bool true)], args := [d1, d2, d3] }
  | _ => none }
def fnExactHasLinearRow : OpenClaim := { program := "ytlapkhmehcnjeaa", sum := "fe6be95034500857ab2dc321bcdf4bbb9fdb0c0ea1d728b0c966b239596c77c0", func := "loop.example/g03100/laws.FnExactHasLinear", spec := "fnExactHasLinear", apart := false }
def FnExactHasLinearSaid : Prop := fnExactHasLinearRow.holds Try.pinned (OpenSpec.ofChange fnExactHasLinearSpec)

/-- ITS FALSE NEIGHBOUR: 'it returns false'. Refute it at one input. -/
def fnExactHasLinearWrong : ChangeSpec := { name := "fnExactHasLinear", fn := fun _ => fun
  | [d1, d2, d3] => { results := [.lit (.bool false)], args := [d1, d2, d3] }
  | _ => none }
def FnExactHasLinearWrongFalsely : Prop := fnExactHasLinearRow.holds Try.pinned (OpenSpec.ofChange fnExactHasLinearWrong)

/-- 'laws.FnExactRegularityOf': WHATEVER THE INPUT: true; the input reads as it did. -/
def fnExactRegularityOfSpec : ChangeSpec := { name := "fnExactRegularityOf", fn := fun _ => fun
  | [d1, d2] => { results := [.lit (.bool true)], args := [d1, d2] }
  | _ => none }
def fnExactRegularityOfRow : OpenClaim := { program := "ytlapkhmehcnjeaa", sum := "fe6be95034500857ab2dc321bcdf4bbb9fdb0c0ea1d728b0c966b239596c77c0", func := "loop.example/g03100/laws.FnExactRegularityOf", spec := "fnExactRegularityOf", apart := false }
def FnExactRegularityOfSaid : Prop := fnExactRegularityOfRow.holds Try.pinned (OpenSpec.ofChange fnExactRegularityOfSpec)

/-- ITS FALSE NEIGHBOUR: 'it returns false'. Refute it at one input. -/
def fnExactRegularityOfWrong : ChangeSpec := { name := "fnExactRegularityOf", fn := fun _ => fun
  | [d1, d2] => { results := [.lit (.bool false)], args := [d1, d2] }
  | _ => none }
def FnExactRegularityOfWrongFalsely : Prop := fnExactRegularityOfRow.holds Try.pinned (OpenSpec.ofChange fnExactRegularityOfWrong)

/-- 'laws.FnExactLengthOf': WHATEVER THE INPUT: true; the input reads as it did. -/
def fnExactLengthOfSpec : ChangeSpec := { name := "fnExactLengthOf", fn := fun _ => fun
  | [d1, d2] => { results := [.lit (.bool true)], args := [d1, d2] }
  | _ => none }
def fnExactLengthOfRow : OpenClaim := { program := "ytlapkhmehcnjeaa", sum := "fe6be95034500857ab2dc321bcdf4bbb9fdb0c0ea1d728b0c966b239596c77c0", func := "loop.example/g03100/laws.FnExactLengthOf", spec := "fnExactLengthOf", apart := false }
def FnExactLengthOfSaid : Prop := fnExactLengthOfRow.holds Try.pinned (OpenSpec.ofChange fnExactLengthOfSpec)

/-- ITS FALSE NEIGHBOUR: 'it returns false'. Refute it at one input. -/
def fnExactLengthOfWrong : ChangeSpec := { name := "fnExactLengthOf", fn := fun _ => fun
  | [d1, d2] => { results := [.lit (.bool false)], args := [d1, d2] }
  | _ => none }
def FnExactLengthOfWrongFalsely : Prop := fnExactLengthOfRow.holds Try.pinned (OpenSpec.ofChange fnExactLengthOfWrong)

/-- 'laws.FnExactSignedSums': WHATEVER THE INPUT: true; the input reads as it did. -/
def fnExactSignedSumsSpec : ChangeSpec := { name := "fnExactSignedSums", fn := fun _ => fun
  | [d1, d2] => { results := [.lit (.bool true)], args := [d1, d2] }
  | _ => none }
def fnExactSignedSumsRow : OpenClaim := { program := "ytlapkhmehcnjeaa", sum := "fe6be95034500857ab2dc321bcdf4bbb9fdb0c0ea1d728b0c966b239596c77c0", func := "loop.example/g03100/laws.FnExactSignedSums", spec := "fnExactSignedSums", apart := false }
def FnExactSignedSumsSaid : Prop := fnExactSignedSumsRow.holds Try.pinned (OpenSpec.ofChange fnExactSignedSumsSpec)

/-- ITS FALSE NEIGHBOUR: 'it returns false'. Refute it at one input. -/
def fnExactSignedSumsWrong : ChangeSpec := { name := "fnExactSignedSums", fn := fun _ => fun
  | [d1, d2] => { results := [.lit (.bool false)], args := [d1, d2] }
  | _ => none }
def FnExactSignedSumsWrongFalsely : Prop := fnExactSignedSumsRow.holds Try.pinned (OpenSpec.ofChange fnExactSignedSumsWrong)

/-- 'laws.FnExactBettiTable': WHATEVER THE INPUT: true; the input reads as it did. -/
def fnExactBettiTableSpec : ChangeSpec := { name := "fnExactBettiTable", fn := fun _ => fun
  | [d1, d2] => { results := [.lit (.bool true)], args := [d1, d2] }
  | _ => none }
def fnExactBettiTableRow : OpenClaim := { program := "ytlapkhmehcnjeaa", sum := "fe6be95034500857ab2dc321bcdf4bbb9fdb0c0ea1d728b0c966b239596c77c0", func := "loop.example/g03100/laws.FnExactBettiTable", spec := "fnExactBettiTable", apart := false }
def FnExactBettiTableSaid : Prop := fnExactBettiTableRow.holds Try.pinned (OpenSpec.ofChange fnExactBettiTableSpec)

/-- ITS FALSE NEIGHBOUR: 'it returns false'. Refute it at one input. -/
def fnExactBettiTableWrong : ChangeSpec := { name := "fnExactBettiTable", fn := fun _ => fun
  | [d1, d2] => { results := [.lit (.bool false)], args := [d1, d2] }
  | _ => none }
def FnExactBettiTableWrongFalsely : Prop := fnExactBettiTableRow.holds Try.pinned (OpenSpec.ofChange fnExactBettiTableWrong)

/-- 'laws.FnExactRowSums': WHATEVER THE INPUT: true; the input reads as it did. -/
def fnExactRowSumsSpec : ChangeSpec := { name := "fnExactRowSums", fn := fun _ => fun
  | [d1, d2] => { results := [.lit (.bool true)], args := [d1, d2] }
  | _ => none }
def fnExactRowSumsRow : OpenClaim := { program := "ytlapkhmehcnjeaa", sum := "fe6be95034500857ab2dc321bcdf4bbb9fdb0c0ea1d728b0c966b239596c77c0", func := "loop.example/g03100/laws.FnExactRowSums", spec := "fnExactRowSums", apart := false }
def FnExactRowSumsSaid : Prop := fnExactRowSumsRow.holds Try.pinned (OpenSpec.ofChange fnExactRowSumsSpec)

/-- ITS FALSE NEIGHBOUR: 'it returns false'. Refute it at one input. -/
def fnExactRowSumsWrong : ChangeSpec := { name := "fnExactRowSums", fn := fun _ => fun
  | [d1, d2] => { results := [.lit (.bool false)], args := [d1, d2] }
  | _ => none }
def FnExactRowSumsWrongFalsely : Prop := fnExactRowSumsRow.holds Try.pinned (OpenSpec.ofChange fnExactRowSumsWrong)

/-- 'laws.FnExactLinearDegree': WHATEVER THE INPUT: true; the input reads as it did. -/
def fnExactLinearDegreeSpec : ChangeSpec := { name := "fnExactLinearDegree", fn := fun _ => fun
  | [d1, d2] => { results := [.lit (.bool true)], args := [d1, d2] }
  | _ => none }
def fnExactLinearDegreeRow : OpenClaim := { program := "ytlapkhmehcnjeaa", sum := "fe6be95034500857ab2dc321bcdf4bbb9fdb0c0ea1d728b0c966b239596c77c0", func := "loop.example/g03100/laws.FnExactLinearDegree", spec := "fnExactLinearDegree", unfollowed := true, recurses := true, apart := false }
def FnExactLinearDegreeSaid : Prop := fnExactLinearDegreeRow.holds Try.pinned (OpenSpec.ofChange fnExactLinearDegreeSpec)

/-- ITS FALSE NEIGHBOUR: 'it returns false'. Refute it at one input. -/
def fnExactLinearDegreeWrong : ChangeSpec := { name := "fnExactLinearDegree", fn := fun _ => fun
  | [d1, d2] => { results := [.lit (.bool false)], args := [d1, d2] }
  | _ => none }
def FnExactLinearDegreeWrongFalsely : Prop := fnExactLinearDegreeRow.holds Try.pinned (OpenSpec.ofChange fnExactLinearDegreeWrong)

/-- 'laws.FnExactGraphRegularity': WHATEVER THE INPUT: true; the input reads as it did. -/
def fnExactGraphRegularitySpec : ChangeSpec := { name := "fnExactGraphRegularity", fn := fun _ => fun
  | [d1, d2] => { results := [.lit (.bool true)], args := [d1, d2] }
  | _ => none }
def fnExactGraphRegularityRow : OpenClaim := { program := "ytlapkhmehcnjeaa", sum := "fe6be95034500857ab2dc321bcdf4bbb9fdb0c0ea1d728b0c966b239596c77c0", func := "loop.example/g03100/laws.FnExactGraphRegularity", spec := "fnExactGraphRegularity", unfollowed := true, recurses := true, apart := false }
def FnExactGraphRegularitySaid : Prop := fnExactGraphRegularityRow.holds Try.pinned (OpenSpec.ofChange fnExactGraphRegularitySpec)

/-- ITS FALSE NEIGHBOUR: 'it returns false'. Refute it at one input. -/
def fnExactGraphRegularityWrong : ChangeSpec := { name := "fnExactGraphRegularity", fn := fun _ => fun
  | [d1, d2] => { results := [.lit (.bool false)], args := [d1, d2] }
  | _ => none }
def FnExactGraphRegularityWrongFalsely : Prop := fnExactGraphRegularityRow.holds Try.pinned (OpenSpec.ofChange fnExactGraphRegularityWrong)

/- THE SECOND FORM. 'bulk': how many values and letters a reading holds, each counted each time it is reached (what is shared counts as often as it is met; a slice's spare places count too). A statement '..UptoSaid' is the law's where the arguments, and the package variables that the reading takes, are together of bulk at most 1048576: NARROWER than '..Said'. Prove '..Said' where nothing that the law and all that it calls make is longer than what came in: it says more and counts as full. Else prove '..UptoSaid'. A law counts once. -/
mutual
def uptoBulk {H : Type} : DataW H → Nat
  | .lit (.string bytes) => bytes.length + 1
  | .lit _ => 1
  | .nil => 1
  | .ptr d => uptoBulk d + 1
  | .slice elems spare => uptoBulkAll elems + uptoBulkAll spare + 1
  | .agg parts => uptoBulkAll parts + 1
  | .iface _ d => uptoBulk d + 1
  | .map entries => uptoBulkEntries entries + 1
  | .held _ => 1
def uptoBulkAll {H : Type} : List (DataW H) → Nat
  | [] => 0
  | d :: r => uptoBulk d + uptoBulkAll r
def uptoBulkEntries {H : Type} : List (Lit × DataW H) → Nat
  | [] => 0
  | x :: r => uptoBulkEntry x + uptoBulkEntries r
def uptoBulkEntry {H : Type} : Lit × DataW H → Nat
  | (.string bytes, d) => bytes.length + uptoBulk d + 1
  | (_, d) => uptoBulk d + 1
 end
def uptoSmall : (H : Type) → List (DataW H) → Bool := fun _ ds => decide (uptoBulkAll ds ≤ 1048576)
def OpenSpec.upto (s : _root_.Go.ChangeSpec) : _root_.Go.OpenSpec := { _root_.Go.OpenSpec.ofChange s with cond := some uptoSmall }

/-- 'laws.FnExactNewSession', WHERE WHAT IT READS IS OF BULK AT MOST 1048576: true; the input reads as it did. -/
def fnExactNewSessionUptoRow : OpenClaim := { program := "ytlapkhmehcnjeaa", sum := "fe6be95034500857ab2dc321bcdf4bbb9fdb0c0ea1d728b0c966b239596c77c0", func := "loop.example/g03100/laws.FnExactNewSession", spec := "fnExactNewSession", apart := false, narrowed := true }
def FnExactNewSessionUptoSaid : Prop := fnExactNewSessionUptoRow.holds Try.pinned (OpenSpec.upto fnExactNewSessionSpec)

/-- 'laws.FnExactMissingText', WHERE WHAT IT READS IS OF BULK AT MOST 1048576: true; the input reads as it did. -/
def fnExactMissingTextUptoRow : OpenClaim := { program := "ytlapkhmehcnjeaa", sum := "fe6be95034500857ab2dc321bcdf4bbb9fdb0c0ea1d728b0c966b239596c77c0", func := "loop.example/g03100/laws.FnExactMissingText", spec := "fnExactMissingText", inPlace := ["internal/abi.NoEscape", "internal/bytealg.MakeNoZero"], unfollowed := true, recurses := true, apart := false, narrowed := true }
def FnExactMissingTextUptoSaid : Prop := fnExactMissingTextUptoRow.holds Try.pinned (OpenSpec.upto fnExactMissingTextSpec)

/-- 'laws.FnExactBettiAt', WHERE WHAT IT READS IS OF BULK AT MOST 1048576: true; the input reads as it did. -/
def fnExactBettiAtUptoRow : OpenClaim := { program := "ytlapkhmehcnjeaa", sum := "fe6be95034500857ab2dc321bcdf4bbb9fdb0c0ea1d728b0c966b239596c77c0", func := "loop.example/g03100/laws.FnExactBettiAt", spec := "fnExactBettiAt", apart := false, narrowed := true }
def FnExactBettiAtUptoSaid : Prop := fnExactBettiAtUptoRow.holds Try.pinned (OpenSpec.upto fnExactBettiAtSpec)

/-- 'laws.FnExactHasLinear', WHERE WHAT IT READS IS OF BULK AT MOST 1048576: true; the input reads as it did. -/
def fnExactHasLinearUptoRow : OpenClaim := { program := "ytlapkhmehcnjeaa", sum := "fe6be95034500857ab2dc321bcdf4bbb9fdb0c0ea1d728b0c966b239596c77c0", func := "loop.example/g03100/laws.FnExactHasLinear", spec := "fnExactHasLinear", apart := false, narrowed := true }
def FnExactHasLinearUptoSaid : Prop := fnExactHasLinearUptoRow.holds Try.pinned (OpenSpec.upto fnExactHasLinearSpec)

/-- 'laws.FnExactRegularityOf', WHERE WHAT IT READS IS OF BULK AT MOST 1048576: true; the input reads as it did. -/
def fnExactRegularityOfUptoRow : OpenClaim := { program := "ytlapkhmehcnjeaa", sum := "fe6be95034500857ab2dc321bcdf4bbb9fdb0c0ea1d728b0c966b239596c77c0", func := "loop.example/g03100/laws.FnExactRegularityOf", spec := "fnExactRegularityOf", apart := false, narrowed := true }
def FnExactRegularityOfUptoSaid : Prop := fnExactRegularityOfUptoRow.holds Try.pinned (OpenSpec.upto fnExactRegularityOfSpec)

/-- 'laws.FnExactLengthOf', WHERE WHAT IT READS IS OF BULK AT MOST 1048576: true; the input reads as it did. -/
def fnExactLengthOfUptoRow : OpenClaim := { program := "ytlapkhmehcnjeaa", sum := "fe6be95034500857ab2dc321bcdf4bbb9fdb0c0ea1d728b0c966b239596c77c0", func := "loop.example/g03100/laws.FnExactLengthOf", spec := "fnExactLengthOf", apart := false, narrowed := true }
def FnExactLengthOfUptoSaid : Prop := fnExactLengthOfUptoRow.holds Try.pinned (OpenSpec.upto fnExactLengthOfSpec)

/-- 'laws.FnExactSignedSums', WHERE WHAT IT READS IS OF BULK AT MOST 1048576: true; the input reads as it did. -/
def fnExactSignedSumsUptoRow : OpenClaim := { program := "ytlapkhmehcnjeaa", sum := "fe6be95034500857ab2dc321bcdf4bbb9fdb0c0ea1d728b0c966b239596c77c0", func := "loop.example/g03100/laws.FnExactSignedSums", spec := "fnExactSignedSums", apart := false, narrowed := true }
def FnExactSignedSumsUptoSaid : Prop := fnExactSignedSumsUptoRow.holds Try.pinned (OpenSpec.upto fnExactSignedSumsSpec)

/-- 'laws.FnExactBettiTable', WHERE WHAT IT READS IS OF BULK AT MOST 1048576: true; the input reads as it did. -/
def fnExactBettiTableUptoRow : OpenClaim := { program := "ytlapkhmehcnjeaa", sum := "fe6be95034500857ab2dc321bcdf4bbb9fdb0c0ea1d728b0c966b239596c77c0", func := "loop.example/g03100/laws.FnExactBettiTable", spec := "fnExactBettiTable", apart := false, narrowed := true }
def FnExactBettiTableUptoSaid : Prop := fnExactBettiTableUptoRow.holds Try.pinned (OpenSpec.upto fnExactBettiTableSpec)

/-- 'laws.FnExactRowSums', WHERE WHAT IT READS IS OF BULK AT MOST 1048576: true; the input reads as it did. -/
def fnExactRowSumsUptoRow : OpenClaim := { program := "ytlapkhmehcnjeaa", sum := "fe6be95034500857ab2dc321bcdf4bbb9fdb0c0ea1d728b0c966b239596c77c0", func := "loop.example/g03100/laws.FnExactRowSums", spec := "fnExactRowSums", apart := false, narrowed := true }
def FnExactRowSumsUptoSaid : Prop := fnExactRowSumsUptoRow.holds Try.pinned (OpenSpec.upto fnExactRowSumsSpec)

/-- 'laws.FnExactLinearDegree', WHERE WHAT IT READS IS OF BULK AT MOST 1048576: true; the input reads as it did. -/
def fnExactLinearDegreeUptoRow : OpenClaim := { program := "ytlapkhmehcnjeaa", sum := "fe6be95034500857ab2dc321bcdf4bbb9fdb0c0ea1d728b0c966b239596c77c0", func := "loop.example/g03100/laws.FnExactLinearDegree", spec := "fnExactLinearDegree", unfollowed := true, recurses := true, apart := false, narrowed := true }
def FnExactLinearDegreeUptoSaid : Prop := fnExactLinearDegreeUptoRow.holds Try.pinned (OpenSpec.upto fnExactLinearDegreeSpec)

/-- 'laws.FnExactGraphRegularity', WHERE WHAT IT READS IS OF BULK AT MOST 1048576: true; the input reads as it did. -/
def fnExactGraphRegularityUptoRow : OpenClaim := { program := "ytlapkhmehcnjeaa", sum := "fe6be95034500857ab2dc321bcdf4bbb9fdb0c0ea1d728b0c966b239596c77c0", func := "loop.example/g03100/laws.FnExactGraphRegularity", spec := "fnExactGraphRegularity", unfollowed := true, recurses := true, apart := false, narrowed := true }
def FnExactGraphRegularityUptoSaid : Prop := fnExactGraphRegularityUptoRow.holds Try.pinned (OpenSpec.upto fnExactGraphRegularitySpec)

end Rows
end Go.Proofs.Ytlapkhmehcnjeaa
