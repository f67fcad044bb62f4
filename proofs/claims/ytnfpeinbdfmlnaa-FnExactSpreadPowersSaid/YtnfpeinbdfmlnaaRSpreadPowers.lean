/- DERIVED by an AI agent. -/
import Derived.Test.YtnfpeinbdfmlnaaLawSpreadPowers
import Derived.Test.YtnfpeinbdfmlnaaF1
import Derived.WalkKit
import Derived.ProofKit
namespace Go.Proofs.Ytnfpeinbdfmlnaa.fnExactSpreadPowers
open Go.ChangeShapes Go.WideShapes Go.ChangeAt Go.RowKit Go.Abs
set_option linter.unusedVariables false
set_option linter.unusedSimpArgs false
theorem own : ownKnob Try.prog.godebug = none := by kernel_rfl
theorem laid : laidOutB Try.prog = true := by kernel_rfl
theorem params_ok : ∀ t ∈ Try.f6.params.toList, Try.prog.readableRec t = true ∧ t < Try.prog.types.size := by
  intro t ht
  rw [Try.params6] at ht
  simp at ht
  subst ht
  exact ⟨by kernel_rfl, of_decide_eq_true (by kernel_rfl)⟩
set_option maxRecDepth 100000 in
theorem lifted (os : Os) (started : os.Started) (H : Type) (enc : TypeId × Value → H) :
    ReturnsInHanded {} Try.checked os 6 .any (Rows.fnExactSpreadPowersSpec.pre6 enc Try.prog Try.f6 Rows.fnExactSpreadPowersRow.domain false) (Rows.fnExactSpreadPowersSpec.post enc Try.prog Try.f6 false true false false) := by
  refine returnsInHanded_of_change (C := Try.checked) own started (by kernel_rfl) Try.func6
    (ChangeSpec.witness6 (enc := enc) (C := Try.checked) false ⟨#[], #[.agg #[.slice none 0 0]], []⟩ 8 (by kernel_rfl) (by kernel_rfl) (by kernel_rfl) (by kernel_rfl)) ?_
  intro W base args ds gs before hval0 hW hcnd _
  have hval : ∀ (j : Nat) t v, Try.f6.params[j]? = some t → args[j]? = some v → Value.okWide Try.prog W .any base t v := hval0
  have hW' := hW
  obtain ⟨p, q, hA0, hV, rfl, hfz, hnd⟩ := hW
  have hA : DataW.TrodAll enc Try.prog W 0 (fun _ => true) true Try.f6.params.toList args.toList ds p := hA0
  rw [Try.params6] at hA hval
  obtain ⟨v0, vs0, d0, ds0, p0, q0, hargs0, rfl, rfl, h0, r0⟩ := trodAll_cons hA
  obtain ⟨rfl, rfl, rfl⟩ := trodAll_nil r0
  obtain rfl : args = #[v0] := by cases args; simp_all
  obtain ⟨rfl, rfl⟩ := trodVars_none hV
  obtain ⟨c0, rfl, hc0⟩ := okWide_struct Try.underlying24 (hval 0 24 v0 rfl rfl)
  obtain ⟨fuel0, h0⟩ := h0
  obtain ⟨y0, n0, _, _, hy0⟩ := trod_struct1 Try.underlying24 h0
  have hl0 : c0.toList.length = 1 := by simpa [hc0] using (show Try.prog.cellsOf 24 = 1 by kernel_rfl)
  have hz0 : DataW.trod enc Try.prog W 0 (fun _ => true) true n0 22 c0.toList = some y0 := by
    have e : (c0.toList.drop 0).take 1 = c0.toList := one_cell hl0 rfl
    rw [← e]
    exact hy0
  obtain ⟨x0, w0, hv0, hr0⟩ := read_int2 Try.underlying22 (by kernel_rfl) Try.underlying31 (by kernel_rfl) Try.underlying3 hz0
  have hd0 := arr_of hv0
  subst hd0
  refine ((c_laws_FnExactSpreadPowers x0).law (vals := [.agg #[w0]]) ⟨hr0.ag1, trivial⟩).mono fun e W' ⟨he, hx⟩ => ?_
  subst he
  exact ⟨_, rfl, post_true laid params_ok rfl hW' rfl rfl rfl rfl Try.underlying4 hx⟩

theorem over : Rows.fnExactSpreadPowersRow.holds Try.pinned (OpenSpec.ofChange Rows.fnExactSpreadPowersSpec) :=
  OpenClaim.holds_of_wide 6 Try.f6 rfl rfl rfl rfl rfl rfl rfl ⟨rfl, rfl, rfl, rfl, rfl⟩ rfl rfl rfl rfl rfl (by kernel_rfl) Try.func6 (by kernel_rfl)
    (of_decide_eq_true (by kernel_rfl)) (by unfold Func.isWrapper; first | (rw [if_pos (by decide +kernel)]; kernel_rfl) | (rw [if_neg (by decide +kernel)]; exact ⟨rfl, rfl⟩))
    (fun os started H enc _ => lifted os started H enc)

theorem proved : Rows.FnExactSpreadPowersSaid :=
  over
#print axioms proved
end Go.Proofs.Ytnfpeinbdfmlnaa.fnExactSpreadPowers
