/- DERIVED by an AI agent. -/
import Derived.Test.YtpnknaaehcljoaaLawExampleOf
import Derived.Test.YtpnknaaehcljoaaF1
import Derived.WalkKit
import Derived.ProofKit
namespace Go.Proofs.Ytpnknaaehcljoaa.fnExactExampleOf
open Go.ChangeShapes Go.WideShapes Go.ChangeAt Go.RowKit Go.Abs
set_option linter.unusedVariables false
set_option linter.unusedSimpArgs false
theorem own : ownKnob Try.prog.godebug = none := by kernel_rfl
theorem laid : laidOutB Try.prog = true := by kernel_rfl
theorem params_ok : ∀ t ∈ Try.f3.params.toList, Try.prog.readableRec t = true ∧ t < Try.prog.types.size := by
  intro t ht
  rw [Try.params3] at ht
  simp at ht
  subst ht
  exact ⟨by kernel_rfl, of_decide_eq_true (by kernel_rfl)⟩
set_option maxRecDepth 100000 in
theorem read_Complex {H : Type} {enc : TypeId × Value → H} {W : World} {base : Nat} {v : Value} {d : DataW H} {ps : List MemPlace} (hv : Value.okWide Try.prog W .any base 24 v) (h : DataW.Trod enc Try.prog W 0 (fun _ => true) true 24 v d ps) :
    ∃ (k : Int) (xs : List Int), RepO W (.ag [int k, ints xs]) v := by
  obtain ⟨c, rfl, hc⟩ := okWide_struct Try.underlying24 hv
  obtain ⟨fuel, h⟩ := h
  obtain ⟨z0, z1, m, _, hlen, k0, k1⟩ := trod_struct2 Try.underlying24 h
  have e48 : Try.prog.cellsOf 24 = 2 := by kernel_rfl
  have e3 : Try.prog.cellsOf 3 = 1 := by kernel_rfl
  have e26 : Try.prog.cellsOf 22 = 1 := by kernel_rfl
  have hlen : c.toList.length = 2 := by rw [← e48]; exact hlen
  obtain ⟨a, b, e⟩ : ∃ a b, c.toList = [a, b] := by
    match c.toList, hlen with
    | [a, b], _ => exact ⟨a, b, rfl⟩
  have k0 : DataW.trod enc Try.prog W 0 (fun _ => true) true m 3 ((c.toList.drop 0).take (Try.prog.cellsOf 3)) = some z0 := k0
  have k1 : DataW.trod enc Try.prog W 0 (fun _ => true) true m 22 ((c.toList.drop 1).take (Try.prog.cellsOf 22)) = some z1 := k1
  rw [e, e3] at k0
  rw [e, e26] at k1
  obtain ⟨k, ka, _⟩ := read_int Try.underlying3 (show DataW.trod enc Try.prog W 0 (fun _ => true) true m 3 [a] = some z0 from k0)
  obtain ⟨xs, v1, kb, r1⟩ := read_ints Try.underlying22 e3 Try.underlying3 (show DataW.trod enc Try.prog W 0 (fun _ => true) true m 22 [b] = some z1 from k1)
  simp only [List.cons.injEq, and_true] at ka kb
  subst ka kb
  refine ⟨k, xs, ?_⟩
  rw [arr_of e]
  exact RepO.ag2 (RepO.int _ _) r1
set_option maxRecDepth 100000 in
theorem lifted (os : Os) (started : os.Started) (H : Type) (enc : TypeId × Value → H) :
    ReturnsInHanded {} Try.checked os 3 .any (Rows.fnExactExampleOfSpec.pre6 enc Try.prog Try.f3 Rows.fnExactExampleOfRow.domain false) (Rows.fnExactExampleOfSpec.post enc Try.prog Try.f3 false true false false) := by
  refine returnsInHanded_of_change (C := Try.checked) own started (by kernel_rfl) Try.func3
    (ChangeSpec.witness6 (enc := enc) (C := Try.checked) false ⟨#[], #[.agg #[.int .i64 0, .slice none 0 0]], []⟩ 8 (by kernel_rfl) (by kernel_rfl) (by kernel_rfl) (by kernel_rfl)) ?_
  intro W base args ds gs before hval0 hW hcnd _
  have hval : ∀ (j : Nat) t v, Try.f3.params[j]? = some t → args[j]? = some v → Value.okWide Try.prog W .any base t v := hval0
  have hW' := hW
  obtain ⟨p, q, hA0, hV, rfl, hfz, hnd⟩ := hW
  have hA : DataW.TrodAll enc Try.prog W 0 (fun _ => true) true Try.f3.params.toList args.toList ds p := hA0
  rw [Try.params3] at hA hval
  obtain ⟨v0, vs0, d0, ds0, p0, q0, hargs0, rfl, rfl, h0, r0⟩ := trodAll_cons hA
  obtain ⟨rfl, rfl, rfl⟩ := trodAll_nil r0
  obtain rfl : args = #[v0] := by cases args; simp_all
  obtain ⟨rfl, rfl⟩ := trodVars_none hV
  obtain ⟨k0, xs0, hr0⟩ := read_Complex (hval 0 24 v0 rfl rfl) h0
  refine ((c_laws_FnExactExampleOf k0 xs0).law trivial (vals := [v0]) ⟨hr0, trivial⟩).mono fun e W' ⟨he, hx⟩ => ?_
  subst he
  exact ⟨_, rfl, post_true laid params_ok rfl hW' rfl rfl rfl rfl Try.underlying4 hx⟩

theorem over : Rows.fnExactExampleOfRow.holds Try.pinned (OpenSpec.ofChange Rows.fnExactExampleOfSpec) :=
  OpenClaim.holds_of_wide 3 Try.f3 rfl rfl rfl rfl rfl rfl rfl ⟨rfl, rfl, rfl, rfl, rfl⟩ rfl rfl rfl rfl rfl (by kernel_rfl) Try.func3 (by kernel_rfl)
    (of_decide_eq_true (by kernel_rfl)) (by unfold Func.isWrapper; first | (rw [if_pos (by decide +kernel)]; kernel_rfl) | (rw [if_neg (by decide +kernel)]; exact ⟨rfl, rfl⟩))
    (fun os started H enc _ => lifted os started H enc)

theorem proved : Rows.FnExactExampleOfSaid :=
  over
#print axioms proved
end Go.Proofs.Ytpnknaaehcljoaa.fnExactExampleOf
