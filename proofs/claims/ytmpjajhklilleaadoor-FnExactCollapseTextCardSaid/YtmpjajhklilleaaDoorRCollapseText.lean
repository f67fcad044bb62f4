/- DERIVED by an AI agent. -/
import Derived.Test.YtmpjajhklilleaaDoorLawCollapseText
import Derived.Test.YtmpjajhklilleaaDoorF1
import Derived.WalkKit
import Derived.ProofKit
import Derived.Lay
import Derived.SevenTiedAt
import Derived.Test.YtmpjajhklilleaaDoorRows
import Derived.Test.YtmpjajhklilleaaDoorCards
import Derived.Test.YtmpjajhklilleaaDoorTie
namespace Go.Proofs.YtmpjajhklilleaaDoor.fnExactCollapseText
open Go.ChangeShapes Go.WideShapes Go.ChangeAt Go.RowKit Go.Abs
set_option linter.unusedVariables false
set_option linter.unusedSimpArgs false
theorem own : ownKnob Tryd.prog.godebug = none := by kernel_rfl
theorem laid : laidOutB Tryd.prog = true := by kernel_rfl
theorem params_ok : ∀ t ∈ Tryd.f4.params.toList, Tryd.prog.readableRec t = true ∧ t < Tryd.prog.types.size := by
  intro t ht
  rw [Tryd.params4] at ht
  simp at ht
  subst ht
  exact ⟨by kernel_rfl, of_decide_eq_true (by kernel_rfl)⟩
set_option maxRecDepth 100000 in
theorem read_Complex {H : Type} {enc : TypeId × Value → H} {W : World} {base : Nat} {v : Value} {d : DataW H} {ps : List MemPlace} (hv : Value.okWide Tryd.prog W .any base 28 v) (h : DataW.Trod enc Tryd.prog W 0 (fun _ => true) true 28 v d ps) :
    ∃ (k : Int) (xs : List Int), RepO W (.ag [int k, ints xs]) v := by
  obtain ⟨c, rfl, hc⟩ := okWide_struct Tryd.underlying28 hv
  obtain ⟨fuel, h⟩ := h
  obtain ⟨z0, z1, m, _, hlen, k0, k1⟩ := trod_struct2 Tryd.underlying28 h
  have e48 : Tryd.prog.cellsOf 28 = 2 := by kernel_rfl
  have e3 : Tryd.prog.cellsOf 3 = 1 := by kernel_rfl
  have e26 : Tryd.prog.cellsOf 22 = 1 := by kernel_rfl
  have hlen : c.toList.length = 2 := by rw [← e48]; exact hlen
  obtain ⟨a, b, e⟩ : ∃ a b, c.toList = [a, b] := by
    match c.toList, hlen with
    | [a, b], _ => exact ⟨a, b, rfl⟩
  have k0 : DataW.trod enc Tryd.prog W 0 (fun _ => true) true m 3 ((c.toList.drop 0).take (Tryd.prog.cellsOf 3)) = some z0 := k0
  have k1 : DataW.trod enc Tryd.prog W 0 (fun _ => true) true m 22 ((c.toList.drop 1).take (Tryd.prog.cellsOf 22)) = some z1 := k1
  rw [e, e3] at k0
  rw [e, e26] at k1
  obtain ⟨k, ka, _⟩ := read_int Tryd.underlying3 (show DataW.trod enc Tryd.prog W 0 (fun _ => true) true m 3 [a] = some z0 from k0)
  obtain ⟨xs, v1, kb, r1⟩ := read_ints Tryd.underlying22 e3 Tryd.underlying3 (show DataW.trod enc Tryd.prog W 0 (fun _ => true) true m 22 [b] = some z1 from k1)
  simp only [List.cons.injEq, and_true] at ka kb
  subst ka kb
  refine ⟨k, xs, ?_⟩
  rw [arr_of e]
  exact RepO.ag2 (RepO.int _ _) r1
theorem laidTab : ("internal/strconv.uint64pow10", Go.Lib.tabData .u64 Go.Lib.pow10Tab) ∈ Rows.fnExactCollapseTextRow.laid := by
  have e : (Go.Lib.tabData .u64 Go.Lib.pow10Tab : DataW Unit) = Rows.laid_internal_strconv_uint64pow10 := by first | rfl | decide +kernel
  rw [e]
  simp [Rows.fnExactCollapseTextRow]
set_option maxRecDepth 100000 in
theorem lifted (os : Os) (started : os.Started) (H : Type) (enc : TypeId × Value → H) :
    ReturnsInHanded {} Tryd.checked os 4 .any (fun w args => (Rows.fnExactCollapseTextSpec.pre enc Tryd.prog Tryd.f4 [] false w args ∧ laidMetH Tryd.prog Rows.fnExactCollapseTextRow.laid w) ∧ sizedMet enc Tryd.prog Tryd.f4 (OpenSpec.ofChange Rows.fnExactCollapseTextSpec) false w args) (Rows.fnExactCollapseTextSpec.post enc Tryd.prog Tryd.f4 false true false false) := by
  refine returnsInHanded_of_change_and (C := Tryd.checked) (X := fun w _ => laidMetH Tryd.prog Rows.fnExactCollapseTextRow.laid w) (fun _ _ _ hh h => h.of_heap hh) own started (by kernel_rfl) Tryd.func4
    (ChangeSpec.witness_shaped (enc := enc) (C := Tryd.checked) (os := os) (X := fun w _ => laidMetH Tryd.prog Rows.fnExactCollapseTextRow.laid w) false (World.laidAll Tryd.prog os Rows.fnExactCollapseTextRow.laid) #[.agg #[.int .i64 0, .slice none 0 0]] 8 (World.laidAll_os _ _ _)
      (World.shaped_of_ZipB (by kernel_rfl) (by kernel_rfl)) (by kernel_rfl) (by kernel_rfl) (by kernel_rfl)
      (by rw [MakeChecks.laidMetH_plain _ _ _ (by kernel_rfl)]; exact laidMet_laidAll _ (by kernel_rfl) (by kernel_rfl))) ?_
  intro W base args ds gs before hval0 hW _ _ hL _
  rw [MakeChecks.laidMetH_plain _ _ _ (by kernel_rfl)] at hL
  have hPhi : Held.Φ W := powTab_of powG (by kernel_rfl) Tryd.underlying107 Tryd.underlying59 (by kernel_rfl) (by kernel_rfl) hL laidTab
  have hval : ∀ (j : Nat) t v, Tryd.f4.params[j]? = some t → args[j]? = some v → Value.okWide Tryd.prog W .any base t v := hval0
  have hW' := hW
  obtain ⟨p, q, hA0, hV, rfl, hfz, hnd⟩ := hW
  have hA : DataW.TrodAll enc Tryd.prog W 0 (fun _ => true) true Tryd.f4.params.toList args.toList ds p := hA0
  rw [Tryd.params4] at hA hval
  obtain ⟨v0, vs0, d0, ds0, p0, q0, hargs0, rfl, rfl, h0, r0⟩ := trodAll_cons hA
  obtain ⟨rfl, rfl, rfl⟩ := trodAll_nil r0
  obtain rfl : args = #[v0] := by cases args; simp_all
  obtain ⟨rfl, rfl⟩ := trodVars_none hV
  obtain ⟨k0, xs0, hr0⟩ := read_Complex (hval 0 28 v0 rfl rfl) h0
  refine ((c_laws_FnExactCollapseText k0 xs0).law hPhi (vals := [v0]) ⟨hr0, trivial⟩).mono fun e W' ⟨he, hx⟩ => ?_
  subst he
  exact ⟨_, rfl, post_true laid params_ok rfl hW' rfl rfl rfl rfl Tryd.underlying4 hx⟩

theorem over : Rows.fnExactCollapseTextRow.holds Tryd.pinned (OpenSpec.ofChange Rows.fnExactCollapseTextSpec) :=
  OpenClaim.holds_of_wide 4 Tryd.f4 rfl rfl rfl rfl rfl rfl rfl ⟨rfl, rfl, rfl, rfl, rfl⟩ rfl rfl rfl rfl rfl (by kernel_rfl) Tryd.func4 (by kernel_rfl)
    (of_decide_eq_true (by kernel_rfl)) (by unfold Func.isWrapper; first | (rw [if_pos (by decide +kernel)]; kernel_rfl) | (rw [if_neg (by decide +kernel)]; exact ⟨rfl, rfl⟩))
    (fun os started H enc _ => lifted os started H enc)

theorem proved : Rows.FnExactCollapseTextCardSaid :=
  Claim7.holds_tied_plain_at .later [] [.data, .data, .data] true Rows.fnExactCollapseTextCard.stood.harness false over (fun _ h => by cases h) (by kernel_rfl) (fun _ h => by cases h) fnExactCollapseText_row_tie rfl ⟨rfl, rfl⟩ (by kernel_rfl) rfl
    (fun f fn hf hfn => by
      obtain rfl : f = 4 := Option.some.inj ((show Tryd.prog.funcNamed "loop.example/g03100/laws.FnExactCollapseText" = some 4 by kernel_rfl).symm.trans hf) |>.symm
      obtain rfl : fn = Tryd.f4 := (Option.some.inj (Tryd.func4.symm.trans hfn)).symm
      exact ⟨by kernel_rfl, fun j t ht => by
        rw [Tryd.params4] at ht
        have hm : t ∈ [28] := by simpa using Array.mem_of_getElem? ht
        have hall : ([28].all fun u => !Tryd.prog.wantsStandIn u) = true := by kernel_rfl
        exact (show Tryd.prog.wantsStandIn t = false by simpa using List.all_eq_true.1 hall t hm)⟩)
    (by kernel_rfl)
#print axioms proved
end Go.Proofs.YtmpjajhklilleaaDoor.fnExactCollapseText
