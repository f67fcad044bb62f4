/- DERIVED by an AI agent. -/
import Derived.Test.YtmpjajhklilleaaDoorQ2
namespace Go.Proofs.YtmpjajhklilleaaDoor
open Go.Abs
set_option linter.unusedSimpArgs false
set_option linter.unusedVariables false

theorem c_laws_FnExactCountsText (xs : List Int) (hin : ∀ x ∈ xs, inI x) : AC Tryd.prog 3 [ints xs] (.im (bool true)) := by
  refine AC.go (rs := [.tmp 2]) T_ok mixed Tryd.func3 rfl rfl rfl (by kernel_rfl) fun hl => ?_
  simp only [lens_cons, lens_nil, and_true, lens2_ag2, lens1_v, lens1_iL, lens2_iL, lens2_v, true_and] at hl
  simp (maxSteps := 5000000) -dsimp only [↓gp, gq, reduceCtorEq, Nat.reduceEqDiff, Nat.reduceLT, Nat.reduceLeDiff, Nat.reduceAdd, Nat.reduceMul, Nat.reduceSub, Nat.reduceBEq, Int.reduceToNat, Int.reduceLE, Int.reduceLT, Int.reduceNeg, Nat.reduceMod, sid_ne1, sid_ne2, sid_inj, sid_mod, gT, TK.isInt, TK.agg, Array.toList, dec_self, dec_self2, bne_self_eq_false, beq_self_eq_true, bool_ne_self, dec_true]
  intro hlen_xs
  have hx_xs : xs.length ≤ 1048576 := by omega
  try simp (maxSteps := 5000000) -dsimp only [↓gp, gq, reduceCtorEq, Nat.reduceEqDiff, Nat.reduceLT, Nat.reduceLeDiff, Nat.reduceAdd, Nat.reduceMul, Nat.reduceSub, Nat.reduceBEq, Int.reduceToNat, Int.reduceLE, Int.reduceLT, Int.reduceNeg, Nat.reduceMod, sid_ne1, sid_ne2, sid_inj, sid_mod, gT, TK.isInt, TK.agg, Array.toList, dec_self, dec_self2, bne_self_eq_false, beq_self_eq_true, bool_ne_self, dec_true]
  first | refine askK_of (c_laws_toIntS xs hx_xs) ?_ | refine ⟨by kernel_rfl, askK_of (c_laws_toIntS xs hx_xs) ?_⟩
  simp (maxSteps := 5000000) -dsimp only [↓gp, gq, reduceCtorEq, Nat.reduceEqDiff, Nat.reduceLT, Nat.reduceLeDiff, Nat.reduceAdd, Nat.reduceMul, Nat.reduceSub, Nat.reduceBEq, Int.reduceToNat, Int.reduceLE, Int.reduceLT, Int.reduceNeg, Nat.reduceMod, sid_ne1, sid_ne2, sid_inj, sid_mod, gT, TK.isInt, TK.agg, Array.toList, dec_self, dec_self2, bne_self_eq_false, beq_self_eq_true, bool_ne_self, dec_true]
  first | refine askK_of (c_spec_CountsText xs hx_xs hin) ?_ | refine ⟨by kernel_rfl, askK_of (c_spec_CountsText xs hx_xs hin) ?_⟩
  simp (maxSteps := 5000000) -dsimp only [↓gp, gq, reduceCtorEq, Nat.reduceEqDiff, Nat.reduceLT, Nat.reduceLeDiff, Nat.reduceAdd, Nat.reduceMul, Nat.reduceSub, Nat.reduceBEq, Int.reduceToNat, Int.reduceLE, Int.reduceLT, Int.reduceNeg, Nat.reduceMod, sid_ne1, sid_ne2, sid_inj, sid_mod, gT, TK.isInt, TK.agg, Array.toList, dec_self, dec_self2, bne_self_eq_false, beq_self_eq_true, bool_ne_self, dec_true]
  first | refine askK_of (c_laws_toIntS xs hx_xs) ?_ | refine ⟨by kernel_rfl, askK_of (c_laws_toIntS xs hx_xs) ?_⟩
  simp (maxSteps := 5000000) -dsimp only [↓gp, gq, reduceCtorEq, Nat.reduceEqDiff, Nat.reduceLT, Nat.reduceLeDiff, Nat.reduceAdd, Nat.reduceMul, Nat.reduceSub, Nat.reduceBEq, Int.reduceToNat, Int.reduceLE, Int.reduceLT, Int.reduceNeg, Nat.reduceMod, sid_ne1, sid_ne2, sid_inj, sid_mod, gT, TK.isInt, TK.agg, Array.toList, dec_self, dec_self2, bne_self_eq_false, beq_self_eq_true, bool_ne_self, dec_true]
  first | refine askK_of (c_impl_CountsText xs hx_xs hin) ?_ | refine ⟨by kernel_rfl, askK_of (c_impl_CountsText xs hx_xs hin) ?_⟩
  simp (maxSteps := 5000000) -dsimp only [↓gp, gq, reduceCtorEq, Nat.reduceEqDiff, Nat.reduceLT, Nat.reduceLeDiff, Nat.reduceAdd, Nat.reduceMul, Nat.reduceSub, Nat.reduceBEq, Int.reduceToNat, Int.reduceLE, Int.reduceLT, Int.reduceNeg, Nat.reduceMod, sid_ne1, sid_ne2, sid_inj, sid_mod, gT, TK.isInt, TK.agg, Array.toList, dec_self, dec_self2, bne_self_eq_false, beq_self_eq_true, bool_ne_self, dec_true]
  first | refine askK_of (c_laws_toIntS xs hx_xs) ?_ | refine ⟨by kernel_rfl, askK_of (c_laws_toIntS xs hx_xs) ?_⟩
  simp (maxSteps := 5000000) -dsimp only [↓gp, gq, reduceCtorEq, Nat.reduceEqDiff, Nat.reduceLT, Nat.reduceLeDiff, Nat.reduceAdd, Nat.reduceMul, Nat.reduceSub, Nat.reduceBEq, Int.reduceToNat, Int.reduceLE, Int.reduceLT, Int.reduceNeg, Nat.reduceMod, sid_ne1, sid_ne2, sid_inj, sid_mod, gT, TK.isInt, TK.agg, Array.toList, dec_self, dec_self2, bne_self_eq_false, beq_self_eq_true, bool_ne_self, dec_true]
  first | refine askK_of (c_laws_eqIntS _ _) ?_ | refine ⟨by kernel_rfl, askK_of (c_laws_eqIntS _ _) ?_⟩
  simp (maxSteps := 5000000) -dsimp only [↓gp, gq, reduceCtorEq, Nat.reduceEqDiff, Nat.reduceLT, Nat.reduceLeDiff, Nat.reduceAdd, Nat.reduceMul, Nat.reduceSub, Nat.reduceBEq, Int.reduceToNat, Int.reduceLE, Int.reduceLT, Int.reduceNeg, Nat.reduceMod, sid_ne1, sid_ne2, sid_inj, sid_mod, gT, TK.isInt, TK.agg, Array.toList, dec_self, dec_self2, bne_self_eq_false, beq_self_eq_true, bool_ne_self, dec_true]
  all_goals first | done | exact (by kernel_rfl) | exact ⟨by kernel_rfl, trivial⟩ | trivial
end Go.Proofs.YtmpjajhklilleaaDoor
