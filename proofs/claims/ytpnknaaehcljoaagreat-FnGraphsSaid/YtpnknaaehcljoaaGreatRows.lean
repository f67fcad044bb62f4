/-
  No cell of these rows narrows 'for every input' (looked for: loops, veiled, ifaces, maps, wideKeys, modest, calm, conditions, laid).
  DERIVED. THE GIVEN ROWS OF THIS SEAT. 4 by the template 'for every input the law returns true; each argument reads behind the call as it read before'; 0 by the template 'total and deterministic' (their statements: YtpnknaaehcljoaaGreatTotals.lean).
  GIVEN WITH THE SEED: the statements are not yours to turn. If you find one false, say at which input.
  Laid BY PROGRAM, IN A SANDBOX (cutbox-rows.mjs): the forced cells as the released guide's own fill.sh prints them over the translation ff63859d57c3f621… (all of the seat's roots in one cut). By AI agents, Wed Nov 11 2026. No macro, syntax, notation, axiom, sorry.
-/
import Derived.Test.YtpnknaaehcljoaaGreatChecked
import GoSem.Claim
import GoSem.ClaimJoined
import GoSem.ClaimMapViews
import Derived.JoinedTies
import Derived.KernelRfl
namespace Go.Proofs.YtpnknaaehcljoaaGreat
/- THE CELL 'sum', in the pinned program and in every row, IS THE sha256 OF THE DUMP (.gsa) THAT YtpnknaaehcljoaaGreatProg.lean LOADS. Nothing in Lean hashes anything: it is a label: what it is worth is what the hold of that sum in a sandbox is worth. -/
noncomputable def Tryz.pinned : Pinned := { name := "ytpnknaaehcljoaagreat", sum := "ff63859d57c3f621bf8b3f19494d1b9c5db21b379c3cfdf7897e73927e801c8c", checked := Tryz.checked }
namespace Rows
def none {H : Type} : Left H := { results := [], args := [] }

/-- 'laws.FnExamples': WHATEVER THE INPUT: true; the input reads as it did. -/
def fnExamplesSpec : ChangeSpec := { name := "fnExamples", fn := fun _ => fun
  | [d] => { results := [.lit (.bool true)], args := [d] }
  | _ => none }
def fnExamplesRow : OpenClaim := { program := "ytpnknaaehcljoaagreat", sum := "ff63859d57c3f621bf8b3f19494d1b9c5db21b379c3cfdf7897e73927e801c8c", func := "loop.example/g03100/laws.FnExamples", spec := "fnExamples", unfollowed := true, recurses := true, apart := false }
def FnExamplesSaid : Prop := fnExamplesRow.holds Tryz.pinned (OpenSpec.ofChange fnExamplesSpec)

/-- ITS FALSE NEIGHBOUR: 'it returns false'. Refute it at one input. -/
def fnExamplesWrong : ChangeSpec := { name := "fnExamples", fn := fun _ => fun
  | [d] => { results := [.lit (.bool false)], args := [d] }
  | _ => none }
def FnExamplesWrongFalsely : Prop := fnExamplesRow.holds Tryz.pinned (OpenSpec.ofChange fnExamplesWrong)

/-- 'laws.FnGraphs': WHATEVER THE INPUT: true; the input reads as it did. -/
def fnGraphsSpec : ChangeSpec := { name := "fnGraphs", fn := fun _ => fun
  | [d] => { results := [.lit (.bool true)], args := [d] }
  | _ => none }
def fnGraphsRow : OpenClaim := { program := "ytpnknaaehcljoaagreat", sum := "ff63859d57c3f621bf8b3f19494d1b9c5db21b379c3cfdf7897e73927e801c8c", func := "loop.example/g03100/laws.FnGraphs", spec := "fnGraphs", unfollowed := true, recurses := true, apart := false }
def FnGraphsSaid : Prop := fnGraphsRow.holds Tryz.pinned (OpenSpec.ofChange fnGraphsSpec)

/-- ITS FALSE NEIGHBOUR: 'it returns false'. Refute it at one input. -/
def fnGraphsWrong : ChangeSpec := { name := "fnGraphs", fn := fun _ => fun
  | [d] => { results := [.lit (.bool false)], args := [d] }
  | _ => none }
def FnGraphsWrongFalsely : Prop := fnGraphsRow.holds Tryz.pinned (OpenSpec.ofChange fnGraphsWrong)

/-- 'laws.FnEdges': WHATEVER THE INPUT: true; the input reads as it did. -/
def fnEdgesSpec : ChangeSpec := { name := "fnEdges", fn := fun _ => fun
  | [d] => { results := [.lit (.bool true)], args := [d] }
  | _ => none }
def fnEdgesRow : OpenClaim := { program := "ytpnknaaehcljoaagreat", sum := "ff63859d57c3f621bf8b3f19494d1b9c5db21b379c3cfdf7897e73927e801c8c", func := "loop.example/g03100/laws.FnEdges", spec := "fnEdges", unfollowed := true, recurses := true, apart := false }
def FnEdgesSaid : Prop := fnEdgesRow.holds Tryz.pinned (OpenSpec.ofChange fnEdgesSpec)

/-- ITS FALSE NEIGHBOUR: 'it returns false'. Refute it at one input. -/
def fnEdgesWrong : ChangeSpec := { name := "fnEdges", fn := fun _ => fun
  | [d] => { results := [.lit (.bool false)], args := [d] }
  | _ => none }
def FnEdgesWrongFalsely : Prop := fnEdgesRow.holds Tryz.pinned (OpenSpec.ofChange fnEdgesWrong)

/-- 'laws.FnQuotients': WHATEVER THE INPUT: true; the input reads as it did. -/
def fnQuotientsSpec : ChangeSpec := { name := "fnQuotients", fn := fun _ => fun
  | [d] => { results := [.lit (.bool true)], args := [d] }
  | _ => none }
def fnQuotientsRow : OpenClaim := { program := "ytpnknaaehcljoaagreat", sum := "ff63859d57c3f621bf8b3f19494d1b9c5db21b379c3cfdf7897e73927e801c8c", func := "loop.example/g03100/laws.FnQuotients", spec := "fnQuotients", unfollowed := true, recurses := true, apart := false }
def FnQuotientsSaid : Prop := fnQuotientsRow.holds Tryz.pinned (OpenSpec.ofChange fnQuotientsSpec)

/-- ITS FALSE NEIGHBOUR: 'it returns false'. Refute it at one input. -/
def fnQuotientsWrong : ChangeSpec := { name := "fnQuotients", fn := fun _ => fun
  | [d] => { results := [.lit (.bool false)], args := [d] }
  | _ => none }
def FnQuotientsWrongFalsely : Prop := fnQuotientsRow.holds Tryz.pinned (OpenSpec.ofChange fnQuotientsWrong)

/- THE SECOND FORM. 'bulk': how many values and letters a reading holds, each counted each time it is reached (what is shared counts as often as it is met; a slice's spare places count too). A statement '..UptoSaid' is the law's where the arguments, and the package variables that the reading takes, are together of bulk at most 1048576: NARROWER than '..Said'. Prove '..Said' where nothing that the law and all that it calls make is longer than what came in: it says more and counts as full. Else prove '..UptoSaid'. A law counts once. -/
mutual
def uptoBulk {H : Type} : DataW H → Nat
  | .lit (.string bytes) => bytes.length + 1
  | .lit _ => 1
  | .nil => 1
  | .ptr d => uptoBulk d + 1
  | .slice elems spare => uptoBulkAll elems + uptoBulkAll spare + 1
  | .agg parts => uptoBulkAll parts + 1
  | .iface _ d => uptoBulk d + 1
  | .map entries => uptoBulkEntries entries + 1
  | .held _ => 1
def uptoBulkAll {H : Type} : List (DataW H) → Nat
  | [] => 0
  | d :: r => uptoBulk d + uptoBulkAll r
def uptoBulkEntries {H : Type} : List (Lit × DataW H) → Nat
  | [] => 0
  | x :: r => uptoBulkEntry x + uptoBulkEntries r
def uptoBulkEntry {H : Type} : Lit × DataW H → Nat
  | (.string bytes, d) => bytes.length + uptoBulk d + 1
  | (_, d) => uptoBulk d + 1
 end
def uptoSmall : (H : Type) → List (DataW H) → Bool := fun _ ds => decide (uptoBulkAll ds ≤ 1048576)
def OpenSpec.upto (s : _root_.Go.ChangeSpec) : _root_.Go.OpenSpec := { _root_.Go.OpenSpec.ofChange s with cond := some uptoSmall }

/-- 'laws.FnExamples', WHERE WHAT IT READS IS OF BULK AT MOST 1048576: true; the input reads as it did. -/
def fnExamplesUptoRow : OpenClaim := { program := "ytpnknaaehcljoaagreat", sum := "ff63859d57c3f621bf8b3f19494d1b9c5db21b379c3cfdf7897e73927e801c8c", func := "loop.example/g03100/laws.FnExamples", spec := "fnExamples", unfollowed := true, recurses := true, apart := false, narrowed := true }
def FnExamplesUptoSaid : Prop := fnExamplesUptoRow.holds Tryz.pinned (OpenSpec.upto fnExamplesSpec)

/-- 'laws.FnGraphs', WHERE WHAT IT READS IS OF BULK AT MOST 1048576: true; the input reads as it did. -/
def fnGraphsUptoRow : OpenClaim := { program := "ytpnknaaehcljoaagreat", sum := "ff63859d57c3f621bf8b3f19494d1b9c5db21b379c3cfdf7897e73927e801c8c", func := "loop.example/g03100/laws.FnGraphs", spec := "fnGraphs", unfollowed := true, recurses := true, apart := false, narrowed := true }
def FnGraphsUptoSaid : Prop := fnGraphsUptoRow.holds Tryz.pinned (OpenSpec.upto fnGraphsSpec)

/-- 'laws.FnEdges', WHERE WHAT IT READS IS OF BULK AT MOST 1048576: true; the input reads as it did. -/
def fnEdgesUptoRow : OpenClaim := { program := "ytpnknaaehcljoaagreat", sum := "ff63859d57c3f621bf8b3f19494d1b9c5db21b379c3cfdf7897e73927e801c8c", func := "loop.example/g03100/laws.FnEdges", spec := "fnEdges", unfollowed := true, recurses := true, apart := false, narrowed := true }
def FnEdgesUptoSaid : Prop := fnEdgesUptoRow.holds Tryz.pinned (OpenSpec.upto fnEdgesSpec)

/-- 'laws.FnQuotients', WHERE WHAT IT READS IS OF BULK AT MOST 1048576: true; the input reads as it did. -/
def fnQuotientsUptoRow : OpenClaim := { program := "ytpnknaaehcljoaagreat", sum := "ff63859d57c3f621bf8b3f19494d1b9c5db21b379c3cfdf7897e73927e801c8c", func := "loop.example/g03100/laws.FnQuotients", spec := "fnQuotients", unfollowed := true, recurses := true, apart := false, narrowed := true }
def FnQuotientsUptoSaid : Prop := fnQuotientsUptoRow.holds Tryz.pinned (OpenSpec.upto fnQuotientsSpec)

end Rows
end Go.Proofs.YtpnknaaehcljoaaGreat
