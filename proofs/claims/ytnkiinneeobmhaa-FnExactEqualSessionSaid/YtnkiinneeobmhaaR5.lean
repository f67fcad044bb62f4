/- DERIVED by an AI agent. -/
import Derived.Test.YtnkiinneeobmhaaC7
import Derived.Test.YtnkiinneeobmhaaF1
import Derived.WalkKit
import Derived.ProofKit
namespace Go.Proofs.Ytnkiinneeobmhaa.fnExactEqualSession
open Go.ChangeShapes Go.WideShapes Go.ChangeAt Go.RowKit Go.Abs
set_option linter.unusedVariables false
theorem own : ownKnob Try.prog.godebug = none := by kernel_rfl
theorem laid : laidOutB Try.prog = true := by kernel_rfl
theorem params_ok : ∀ t ∈ Try.f5.params.toList, Try.prog.readableRec t = true ∧ t < Try.prog.types.size := by
  rw [Try.params5]
  simp only [List.mem_cons, List.not_mem_nil, or_false, or_self, forall_eq]
  exact ⟨by kernel_rfl, of_decide_eq_true (by kernel_rfl)⟩
/-- A session reads as two numbered lists. -/
theorem read_ses {H : Type} {enc : TypeId × Value → H} {W : World} {base : Nat} {v : Value} {d : DataW H} {ps : List MemPlace} (hv : Value.okWide Try.prog W .any base 30 v) (h : DataW.Trod enc Try.prog W 0 (fun _ => true) true 30 v d ps) :
    ∃ (k : Int) (xs : List Int) (l : Int) (ys : List Int), RepO W (ses k xs l ys) v := by
  obtain ⟨c, rfl, hc⟩ := okWide_struct Try.underlying30 hv
  obtain ⟨fuel, h⟩ := h
  obtain ⟨y0, y1, n, _, hlen, h0, h1⟩ := trod_struct2 Try.underlying30 h
  have e30 : Try.prog.cellsOf 30 = 4 := by kernel_rfl
  have e28 : Try.prog.cellsOf 28 = 2 := by kernel_rfl
  have e3 : Try.prog.cellsOf 3 = 1 := by kernel_rfl
  have e26 : Try.prog.cellsOf 26 = 1 := by kernel_rfl
  have hlen : c.toList.length = 4 := by rw [← e30]; exact hlen
  have h0 : DataW.trod enc Try.prog W 0 (fun _ => true) true n 28 ((c.toList.drop 0).take 2) = some y0 := by rw [← e28]; exact h0
  have h1 : DataW.trod enc Try.prog W 0 (fun _ => true) true n 28 ((c.toList.drop 2).take 2) = some y1 := by rw [← e28]; exact h1
  obtain ⟨a, b, x, y, e⟩ : ∃ a b x y, c.toList = [a, b, x, y] := by
    match c.toList, hlen with
    | [a, b, x, y], _ => exact ⟨a, b, x, y, rfl⟩
  rw [e] at h0 h1
  obtain ⟨z0, z1, m, _, _, k0, k1⟩ := trod_struct2 Try.underlying28 h0
  obtain ⟨u0, u1, m2, _, _, l0, l1⟩ := trod_struct2 Try.underlying28 h1
  have k0 : DataW.trod enc Try.prog W 0 (fun _ => true) true m 3 [a] = some z0 := by
    have : Try.prog.cellsOf 3 = 1 := e3
    have k : DataW.trod enc Try.prog W 0 (fun _ => true) true m 3 ([a, b].take (Try.prog.cellsOf 3)) = some z0 := k0
    rw [this] at k; exact k
  have k1 : DataW.trod enc Try.prog W 0 (fun _ => true) true m 26 [b] = some z1 := by
    have k : DataW.trod enc Try.prog W 0 (fun _ => true) true m 26 ([b].take (Try.prog.cellsOf 26)) = some z1 := k1
    rw [e26] at k; exact k
  have l0 : DataW.trod enc Try.prog W 0 (fun _ => true) true m2 3 [x] = some u0 := by
    have k : DataW.trod enc Try.prog W 0 (fun _ => true) true m2 3 ([x, y].take (Try.prog.cellsOf 3)) = some u0 := l0
    rw [e3] at k; exact k
  have l1 : DataW.trod enc Try.prog W 0 (fun _ => true) true m2 26 [y] = some u1 := by
    have k : DataW.trod enc Try.prog W 0 (fun _ => true) true m2 26 ([y].take (Try.prog.cellsOf 26)) = some u1 := l1
    rw [e26] at k; exact k
  obtain ⟨k, ka, _⟩ := read_int Try.underlying3 k0
  obtain ⟨l, la, _⟩ := read_int Try.underlying3 l0
  obtain ⟨xs, v1, kb, r1⟩ := read_ints Try.underlying26 e3 Try.underlying3 k1
  obtain ⟨ys, v2, lb, r2⟩ := read_ints Try.underlying26 e3 Try.underlying3 l1
  simp only [List.cons.injEq, and_true] at ka la kb lb
  subst ka la kb lb
  refine ⟨k, xs, l, ys, ?_⟩
  rw [arr_of e]
  exact RepO.ag4 (RepO.int _ _) r1 (RepO.int _ _) r2
set_option maxRecDepth 100000 in
theorem lifted (os : Os) (started : os.Started) (H : Type) (enc : TypeId × Value → H) :
    ReturnsInHanded {} Try.checked os 5 .any (Rows.fnExactEqualSessionSpec.pre6 enc Try.prog Try.f5 Rows.fnExactEqualSessionRow.domain false) (Rows.fnExactEqualSessionSpec.post enc Try.prog Try.f5 false true false false) := by
  refine returnsInHanded_of_change (C := Try.checked) own started (by kernel_rfl) Try.func5
    (ChangeSpec.witness6 (enc := enc) (C := Try.checked) false ⟨#[], #[.agg #[.int .i64 0, .slice none 0 0, .int .i64 0, .slice none 0 0], .agg #[.int .i64 0, .slice none 0 0, .int .i64 0, .slice none 0 0]], []⟩ 8 (by kernel_rfl) (by kernel_rfl) (by kernel_rfl) (by kernel_rfl)) ?_
  intro W base args ds gs before hval0 hW hcnd _
  have hval : ∀ (j : Nat) t v, Try.f5.params[j]? = some t → args[j]? = some v → Value.okWide Try.prog W .any base t v := hval0
  have hW' := hW
  obtain ⟨p, q, hA0, hV, rfl, hfz, hnd⟩ := hW
  have hA : DataW.TrodAll enc Try.prog W 0 (fun _ => true) true Try.f5.params.toList args.toList ds p := hA0
  rw [Try.params5] at hA hval
  obtain ⟨v0, vs0, d0, ds0, p0, q0, hargs, rfl, rfl, h0, r0⟩ := trodAll_cons hA
  obtain ⟨v1, vs1, d1, ds1, p1, q1, hargs1, rfl, rfl, h1, r1⟩ := trodAll_cons r0
  obtain ⟨rfl, rfl, rfl⟩ := trodAll_nil r1
  obtain rfl : args = #[v0, v1] := by cases args; simp_all
  obtain ⟨rfl, rfl⟩ := trodVars_none hV
  obtain ⟨k, xs, l, ys, hr0⟩ := read_ses (hval 0 30 v0 rfl rfl) h0
  obtain ⟨k2, xs2, l2, ys2, hr1⟩ := read_ses (hval 1 30 v1 rfl rfl) h1
  refine ((c5 k l k2 l2 xs ys xs2 ys2).law (vals := [v0, v1]) ⟨hr0, hr1, trivial⟩).mono fun e W' ⟨he, hx⟩ => ?_
  subst he
  exact ⟨_, rfl, post_true laid params_ok rfl hW' rfl rfl rfl rfl Try.underlying4 hx⟩

theorem over : Rows.fnExactEqualSessionRow.holds Try.pinned (OpenSpec.ofChange Rows.fnExactEqualSessionSpec) :=
  OpenClaim.holds_of_wide 5 Try.f5 rfl rfl rfl rfl rfl rfl rfl ⟨rfl, rfl, rfl, rfl, rfl⟩ rfl rfl rfl rfl rfl (by kernel_rfl) Try.func5 (by kernel_rfl)
    (of_decide_eq_true (by kernel_rfl)) (by unfold Func.isWrapper; first | (rw [if_pos (by decide +kernel)]; kernel_rfl) | (rw [if_neg (by decide +kernel)]; exact ⟨rfl, rfl⟩))
    (fun os started H enc _ => lifted os started H enc)

theorem proved : Rows.FnExactEqualSessionSaid :=
  over
#print axioms proved
end Go.Proofs.Ytnkiinneeobmhaa.fnExactEqualSession
