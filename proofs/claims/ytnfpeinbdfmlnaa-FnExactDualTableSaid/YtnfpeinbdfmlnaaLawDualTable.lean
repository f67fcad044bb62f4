/- DERIVED by an AI agent. -/
import Derived.Test.YtnfpeinbdfmlnaaQ6
namespace Go.Proofs.Ytnfpeinbdfmlnaa
open Go.Abs
set_option linter.unusedSimpArgs false
set_option linter.unusedVariables false

theorem c_laws_FnExactDualTable (n : Int) (xs : List Int) (p : Int) : AC Try.prog 8 [.ag [int n, ints xs], int p] (.im (bool true)) := by
  refine AC.go (rs := [.tmp 4]) T_ok mixed Try.func8 rfl rfl rfl (by kernel_rfl) fun hl => ?_
  simp only [lens_cons, lens_nil, and_true, lens2_ag2, lens1_v, lens1_iL, lens2_iL, lens2_v, true_and] at hl
  simp (maxSteps := 5000000) -dsimp only [↓gp, gq, reduceCtorEq, Nat.reduceEqDiff, Nat.reduceLT, Nat.reduceLeDiff, Nat.reduceAdd, Nat.reduceMul, Nat.reduceSub, Nat.reduceBEq, Int.reduceToNat, Int.reduceLE, Int.reduceLT, Int.reduceNeg, Nat.reduceMod, sid_ne1, sid_ne2, sid_inj, sid_mod, gT, TK.isInt, TK.agg, Array.toList, sameG_refl, dec_self, dec_self2, bne_self_eq_false, beq_self_eq_true, bool_ne_self, dec_true]
  first | refine askK_of (c_laws_szComplex n xs 1048576 (by decide) (by decide)) ?_ | refine ⟨by kernel_rfl, askK_of (c_laws_szComplex n xs 1048576 (by decide) (by decide)) ?_⟩
  simp (maxSteps := 5000000) -dsimp only [↓gp, gq, reduceCtorEq, Nat.reduceEqDiff, Nat.reduceLT, Nat.reduceLeDiff, Nat.reduceAdd, Nat.reduceMul, Nat.reduceSub, Nat.reduceBEq, Int.reduceToNat, Int.reduceLE, Int.reduceLT, Int.reduceNeg, Nat.reduceMod, sid_ne1, sid_ne2, sid_inj, sid_mod, gT, TK.isInt, TK.agg, Array.toList, sameG_refl, dec_self, dec_self2, bne_self_eq_false, beq_self_eq_true, bool_ne_self, dec_true]
  intro hs_xs
  obtain ⟨hl0_xs, hl1_xs, hx_xs⟩ := szI_le (n := 1048576) (k := xs.length) (by omega) (by simpa using hs_xs)
  first | refine askK_of (c_laws_toComplex n xs hx_xs) ?_ | refine ⟨by kernel_rfl, askK_of (c_laws_toComplex n xs hx_xs) ?_⟩
  simp (maxSteps := 5000000) -dsimp only [↓gp, gq, reduceCtorEq, Nat.reduceEqDiff, Nat.reduceLT, Nat.reduceLeDiff, Nat.reduceAdd, Nat.reduceMul, Nat.reduceSub, Nat.reduceBEq, Int.reduceToNat, Int.reduceLE, Int.reduceLT, Int.reduceNeg, Nat.reduceMod, sid_ne1, sid_ne2, sid_inj, sid_mod, gT, TK.isInt, TK.agg, Array.toList, sameG_refl, dec_self, dec_self2, bne_self_eq_false, beq_self_eq_true, bool_ne_self, dec_true]
  first | refine askK_of (c_spec_DualTableF n xs p) ?_ | refine ⟨by kernel_rfl, askK_of (c_spec_DualTableF n xs p) ?_⟩
  have hF := c_impl_DualTableF n xs p
  have hT := c_impl_DualTable n xs p
  obtain ⟨hl7, hr7⟩ := dtR_len n xs p
  generalize dtR n xs p = M at *
  have hsl := sumL_le7 hr7 M.length
  have hml := mixM_length 1 M M.length
  simp (maxSteps := 5000000) -dsimp only [↓gp, gq, reduceCtorEq, Nat.reduceEqDiff, Nat.reduceLT, Nat.reduceLeDiff, Nat.reduceAdd, Nat.reduceMul, Nat.reduceSub, Nat.reduceBEq, Int.reduceToNat, Int.reduceLE, Int.reduceLT, Int.reduceNeg, Nat.reduceMod, sid_ne1, sid_ne2, sid_inj, sid_mod, gT, TK.isInt, TK.agg, Array.toList, sameG_refl, dec_self, dec_self2, bne_self_eq_false, beq_self_eq_true, bool_ne_self, dec_true]
  first | refine askK_of (c_laws_toComplex n xs hx_xs) ?_ | refine ⟨by kernel_rfl, askK_of (c_laws_toComplex n xs hx_xs) ?_⟩
  simp (maxSteps := 5000000) -dsimp only [↓gp, gq, reduceCtorEq, Nat.reduceEqDiff, Nat.reduceLT, Nat.reduceLeDiff, Nat.reduceAdd, Nat.reduceMul, Nat.reduceSub, Nat.reduceBEq, Int.reduceToNat, Int.reduceLE, Int.reduceLT, Int.reduceNeg, Nat.reduceMod, sid_ne1, sid_ne2, sid_inj, sid_mod, gT, TK.isInt, TK.agg, Array.toList, sameG_refl, dec_self, dec_self2, bne_self_eq_false, beq_self_eq_true, bool_ne_self, dec_true]
  refine askTab_of hT (fun i hi => by simp (maxSteps := 5000000) -dsimp only [gr, Nat.reduceEqDiff, Nat.reduceLT, Nat.reduceAdd, Nat.reduceMod, Nat.reduceBEq, sid_mod, sid_ne1, sid_ne2, sid_inj]) fun S hS0 hSd0 hSs hSr => ?_
  have hS : TabI S.rw 26 1 31 3 (List.range M.length) M := hS0
  have hSd : S.sl 26 = .own 26 1 := hSd0
  have u1 : S.sl 1 = int p := by rw [hSs 1 (by decide)]; simp (maxSteps := 5000000) -dsimp only [gr, Nat.reduceEqDiff, Nat.reduceLT, Nat.reduceAdd, Nat.reduceMod, Nat.reduceBEq, sid_mod, sid_ne1, sid_ne2, sid_inj]
  have u2 : S.sl 2 = .ref 2 1 0 := by rw [hSs 2 (by decide)]; simp (maxSteps := 5000000) -dsimp only [gr, Nat.reduceEqDiff, Nat.reduceLT, Nat.reduceAdd, Nat.reduceMod, Nat.reduceBEq, sid_mod, sid_ne1, sid_ne2, sid_inj]
  have u6 : S.sl 6 = .own 21 1 := by rw [hSs 6 (by decide)]; simp (maxSteps := 5000000) -dsimp only [gr, Nat.reduceEqDiff, Nat.reduceLT, Nat.reduceAdd, Nat.reduceMod, Nat.reduceBEq, sid_mod, sid_ne1, sid_ne2, sid_inj]
  have u7 : S.sl 7 = .ref 7 1 0 := by rw [hSs 7 (by decide)]; simp (maxSteps := 5000000) -dsimp only [gr, Nat.reduceEqDiff, Nat.reduceLT, Nat.reduceAdd, Nat.reduceMod, Nat.reduceBEq, sid_mod, sid_ne1, sid_ne2, sid_inj]
  have w2 : S.rw 2 = ⟨1, .box 54 [int n, ints xs]⟩ := by rw [hSr 2 (by decide)]; simp (maxSteps := 5000000) -dsimp only [gr, Nat.reduceEqDiff, Nat.reduceLT, Nat.reduceAdd, Nat.reduceMod, Nat.reduceBEq, sid_mod, sid_ne1, sid_ne2, sid_inj]
  have w7 : S.rw 7 = ⟨1, .box 57 [int n, .own 23 1]⟩ := by rw [hSr 7 (by decide)]; simp (maxSteps := 5000000) -dsimp only [gr, Nat.reduceEqDiff, Nat.reduceLT, Nat.reduceAdd, Nat.reduceMod, Nat.reduceBEq, sid_mod, sid_ne1, sid_ne2, sid_inj]
  have w21 : S.rw 21 = ⟨1, .sli 31 1 false (iLL M)⟩ := by rw [hSr 21 (by decide)]; simp (maxSteps := 5000000) -dsimp only [gr, Nat.reduceEqDiff, Nat.reduceLT, Nat.reduceAdd, Nat.reduceMod, Nat.reduceBEq, sid_mod, sid_ne1, sid_ne2, sid_inj]
  have w23 : S.rw 23 = ⟨1, .sli 3 1 false (iL xs)⟩ := by rw [hSr 23 (by decide)]; simp (maxSteps := 5000000) -dsimp only [gr, Nat.reduceEqDiff, Nat.reduceLT, Nat.reduceAdd, Nat.reduceMod, Nat.reduceBEq, sid_mod, sid_ne1, sid_ne2, sid_inj]
  have hln := lend_tabI hS
  have htop := hS.top
  clear hSs hSr hS0 hSd0
  simp (maxSteps := 5000000) -dsimp only [↓gp, gq, reduceCtorEq, Nat.reduceEqDiff, Nat.reduceLT, Nat.reduceLeDiff, Nat.reduceAdd, Nat.reduceMul, Nat.reduceSub, Nat.reduceBEq, Int.reduceToNat, Int.reduceLE, Int.reduceLT, Int.reduceNeg, Nat.reduceMod, sid_ne1, sid_ne2, sid_inj, sid_mod, gT, TK.isInt, TK.agg, Array.toList, sameG_refl, dec_self, dec_self2, bne_self_eq_false, beq_self_eq_true, bool_ne_self, dec_true, hSd, u1, u2, u6, u7, w2, w7, w21, w23, hln, htop]
  first | refine askK_of (c_laws_eqIntSS M M) ?_ | refine ⟨by kernel_rfl, askK_of (c_laws_eqIntSS M M) ?_⟩
  simp (maxSteps := 5000000) -dsimp only [↓gp, gq, reduceCtorEq, Nat.reduceEqDiff, Nat.reduceLT, Nat.reduceLeDiff, Nat.reduceAdd, Nat.reduceMul, Nat.reduceSub, Nat.reduceBEq, Int.reduceToNat, Int.reduceLE, Int.reduceLT, Int.reduceNeg, Nat.reduceMod, sid_ne1, sid_ne2, sid_inj, sid_mod, gT, TK.isInt, TK.agg, Array.toList, sameG_refl, dec_self, dec_self2, bne_self_eq_false, beq_self_eq_true, bool_ne_self, dec_true, hSd, u1, u2, u6, u7, w2, w7, w21, w23, hln, htop]
  first | refine askK_of (c_laws_toComplex n xs hx_xs) ?_ | refine ⟨by kernel_rfl, askK_of (c_laws_toComplex n xs hx_xs) ?_⟩
  simp (maxSteps := 5000000) -dsimp only [↓gp, gq, reduceCtorEq, Nat.reduceEqDiff, Nat.reduceLT, Nat.reduceLeDiff, Nat.reduceAdd, Nat.reduceMul, Nat.reduceSub, Nat.reduceBEq, Int.reduceToNat, Int.reduceLE, Int.reduceLT, Int.reduceNeg, Nat.reduceMod, sid_ne1, sid_ne2, sid_inj, sid_mod, gT, TK.isInt, TK.agg, Array.toList, sameG_refl, dec_self, dec_self2, bne_self_eq_false, beq_self_eq_true, bool_ne_self, dec_true, hSd, u1, u2, u6, u7, w2, w7, w21, w23, hln, htop]
  first | refine askK_of (c_laws_eqComplex _ _ _ _) ?_ | refine ⟨by kernel_rfl, askK_of (c_laws_eqComplex _ _ _ _) ?_⟩
  simp (maxSteps := 5000000) -dsimp only [↓gp, gq, reduceCtorEq, Nat.reduceEqDiff, Nat.reduceLT, Nat.reduceLeDiff, Nat.reduceAdd, Nat.reduceMul, Nat.reduceSub, Nat.reduceBEq, Int.reduceToNat, Int.reduceLE, Int.reduceLT, Int.reduceNeg, Nat.reduceMod, sid_ne1, sid_ne2, sid_inj, sid_mod, gT, TK.isInt, TK.agg, Array.toList, sameG_refl, dec_self, dec_self2, bne_self_eq_false, beq_self_eq_true, bool_ne_self, dec_true, hSd, u1, u2, u6, u7, w2, w7, w21, w23, hln, htop]
  have ht1 : decide (1 + (xs.length : Int) < 0) = false := decide_eq_false (by omega)
  first | refine askM_of (c_laws_markComplex _ xs (1) (by omega) (by omega) (by omega)) [(23, 1)] (by repeat (first | exact GiveL.nil | refine GiveL.v ?_ | refine GiveL.own 0 rfl ?_ | refine GiveL.own 1 rfl ?_ | refine GiveL.ag ?_ ?_)) ⟨by simp (maxSteps := 5000000) -dsimp only [gr, Nat.reduceEqDiff, Nat.reduceLT, Nat.reduceAdd, Nat.reduceMod, Nat.reduceBEq, sid_mod, sid_ne1, sid_ne2, sid_inj, w23], trivial⟩ (by decide) ?_ | refine ⟨by kernel_rfl, askM_of (c_laws_markComplex _ xs (1) (by omega) (by omega) (by omega)) [(23, 1)] (by repeat (first | exact GiveL.nil | refine GiveL.v ?_ | refine GiveL.own 0 rfl ?_ | refine GiveL.own 1 rfl ?_ | refine GiveL.ag ?_ ?_)) ⟨by simp (maxSteps := 5000000) -dsimp only [gr, Nat.reduceEqDiff, Nat.reduceLT, Nat.reduceAdd, Nat.reduceMod, Nat.reduceBEq, sid_mod, sid_ne1, sid_ne2, sid_inj, w23], trivial⟩ (by decide) ?_⟩
  simp (maxSteps := 5000000) -dsimp only [↓gp, gq, reduceCtorEq, Nat.reduceEqDiff, Nat.reduceLT, Nat.reduceLeDiff, Nat.reduceAdd, Nat.reduceMul, Nat.reduceSub, Nat.reduceBEq, Int.reduceToNat, Int.reduceLE, Int.reduceLT, Int.reduceNeg, Nat.reduceMod, sid_ne1, sid_ne2, sid_inj, sid_mod, gT, TK.isInt, TK.agg, Array.toList, sameG_refl, dec_self, dec_self2, bne_self_eq_false, beq_self_eq_true, bool_ne_self, dec_true, hSd, u1, u2, u6, u7, w2, w7, w21, w23, hln, htop, ht1]
  rw [hln]
  rotate_left
  · intro j; simp (maxSteps := 5000000) -dsimp only [gr, Nat.reduceEqDiff, Nat.reduceLT, Nat.reduceAdd, Nat.reduceMod, Nat.reduceBEq, sid_mod, sid_ne1, sid_ne2, sid_inj]
  first | refine askK_of (c_laws_eqIntSS M M) ?_ | refine ⟨by kernel_rfl, askK_of (c_laws_eqIntSS M M) ?_⟩
  simp (maxSteps := 5000000) -dsimp only [↓gp, gq, reduceCtorEq, Nat.reduceEqDiff, Nat.reduceLT, Nat.reduceLeDiff, Nat.reduceAdd, Nat.reduceMul, Nat.reduceSub, Nat.reduceBEq, Int.reduceToNat, Int.reduceLE, Int.reduceLT, Int.reduceNeg, Nat.reduceMod, sid_ne1, sid_ne2, sid_inj, sid_mod, gT, TK.isInt, TK.agg, Array.toList, sameG_refl, dec_self, dec_self2, bne_self_eq_false, beq_self_eq_true, bool_ne_self, dec_true, hSd, u1, u2, u6, u7, w2, w7, w21, w23, hln, htop, ht1]
  refine askTabM_of (c_laws_markIntSSG M (by omega) (by omega)) (by repeat (first | exact GiveL.nil | refine GiveL.v ?_ | refine GiveL.own 0 rfl ?_ | refine GiveL.own 1 rfl ?_ | refine GiveL.ag ?_ ?_)) (hS.same (by simp (maxSteps := 5000000) -dsimp only [gr, Nat.reduceEqDiff, Nat.reduceLT, Nat.reduceAdd, Nat.reduceMod, Nat.reduceBEq, sid_mod, sid_ne1, sid_ne2, sid_inj]) (fun j => by simp (maxSteps := 5000000) -dsimp only [gr, Nat.reduceEqDiff, Nat.reduceLT, Nat.reduceAdd, Nat.reduceMod, Nat.reduceBEq, sid_mod, sid_ne1, sid_ne2, sid_inj])) hml (by decide) fun S2 q hS2 hql hS2d hs2 hr2 => ?_
  have v1 : S2.sl 1 = int p := by rw [hs2 1 (by decide)]; simp (maxSteps := 5000000) -dsimp only [gr, Nat.reduceEqDiff, Nat.reduceLT, Nat.reduceAdd, Nat.reduceMod, Nat.reduceBEq, sid_mod, sid_ne1, sid_ne2, sid_inj, u1]
  have v2 : S2.sl 2 = .ref 2 1 0 := by rw [hs2 2 (by decide)]; simp (maxSteps := 5000000) -dsimp only [gr, Nat.reduceEqDiff, Nat.reduceLT, Nat.reduceAdd, Nat.reduceMod, Nat.reduceBEq, sid_mod, sid_ne1, sid_ne2, sid_inj, u2]
  have v6 : S2.sl 6 = .own 21 1 := by rw [hs2 6 (by decide)]; simp (maxSteps := 5000000) -dsimp only [gr, Nat.reduceEqDiff, Nat.reduceLT, Nat.reduceAdd, Nat.reduceMod, Nat.reduceBEq, sid_mod, sid_ne1, sid_ne2, sid_inj, u6]
  have v8 : S2.sl 8 = .own 26 1 := by rw [hs2 8 (by decide)]; simp (maxSteps := 5000000) -dsimp only [gr, Nat.reduceEqDiff, Nat.reduceLT, Nat.reduceAdd, Nat.reduceMod, Nat.reduceBEq, sid_mod, sid_ne1, sid_ne2, sid_inj]
  have y2 : S2.rw 2 = ⟨1, .box 54 [int n, ints xs]⟩ := by rw [hr2 2 (by decide)]; simp (maxSteps := 5000000) -dsimp only [gr, Nat.reduceEqDiff, Nat.reduceLT, Nat.reduceAdd, Nat.reduceMod, Nat.reduceBEq, sid_mod, sid_ne1, sid_ne2, sid_inj, w2]
  have y21 : S2.rw 21 = ⟨1, .sli 31 1 false (iLL M)⟩ := by rw [hr2 21 (by decide)]; simp (maxSteps := 5000000) -dsimp only [gr, Nat.reduceEqDiff, Nat.reduceLT, Nat.reduceAdd, Nat.reduceMod, Nat.reduceBEq, sid_mod, sid_ne1, sid_ne2, sid_inj, w21]
  have hln2 := lend_tabI hS2
  have htop2 := hS2.top
  clear hs2 hr2
  have ht2 : decide (1 + (sumL M M.length : Int) < 0) = false := decide_eq_false (by omega)
  simp (maxSteps := 5000000) -dsimp only [↓gp, gq, reduceCtorEq, Nat.reduceEqDiff, Nat.reduceLT, Nat.reduceLeDiff, Nat.reduceAdd, Nat.reduceMul, Nat.reduceSub, Nat.reduceBEq, Int.reduceToNat, Int.reduceLE, Int.reduceLT, Int.reduceNeg, Nat.reduceMod, sid_ne1, sid_ne2, sid_inj, sid_mod, gT, TK.isInt, TK.agg, Array.toList, sameG_refl, dec_self, dec_self2, bne_self_eq_false, beq_self_eq_true, bool_ne_self, dec_true, hS2d, v1, v2, v6, v8, y2, y21, htop2, ht1, ht2, hln2]
  first | refine askK_of (c_laws_heldIntSSG M (by omega) (by omega)) ?_ | refine ⟨by kernel_rfl, askK_of (c_laws_heldIntSSG M (by omega) (by omega)) ?_⟩
  simp (maxSteps := 5000000) -dsimp only [↓gp, gq, reduceCtorEq, Nat.reduceEqDiff, Nat.reduceLT, Nat.reduceLeDiff, Nat.reduceAdd, Nat.reduceMul, Nat.reduceSub, Nat.reduceBEq, Int.reduceToNat, Int.reduceLE, Int.reduceLT, Int.reduceNeg, Nat.reduceMod, sid_ne1, sid_ne2, sid_inj, sid_mod, gT, TK.isInt, TK.agg, Array.toList, sameG_refl, dec_self, dec_self2, bne_self_eq_false, beq_self_eq_true, bool_ne_self, dec_true, hS2d, v1, v2, v6, v8, y2, y21, htop2, ht1, ht2, hln2]
  first | refine askK_of (c_laws_toComplex n xs hx_xs) ?_ | refine ⟨by kernel_rfl, askK_of (c_laws_toComplex n xs hx_xs) ?_⟩
  simp (maxSteps := 5000000) -dsimp only [↓gp, gq, reduceCtorEq, Nat.reduceEqDiff, Nat.reduceLT, Nat.reduceLeDiff, Nat.reduceAdd, Nat.reduceMul, Nat.reduceSub, Nat.reduceBEq, Int.reduceToNat, Int.reduceLE, Int.reduceLT, Int.reduceNeg, Nat.reduceMod, sid_ne1, sid_ne2, sid_inj, sid_mod, gT, TK.isInt, TK.agg, Array.toList, sameG_refl, dec_self, dec_self2, bne_self_eq_false, beq_self_eq_true, bool_ne_self, dec_true, hS2d, v1, v2, v6, v8, y2, y21, htop2, ht1, ht2, hln2]
  first | refine askK_of (hF) ?_ | refine ⟨by kernel_rfl, askK_of (hF) ?_⟩
  simp (maxSteps := 5000000) -dsimp only [↓gp, gq, reduceCtorEq, Nat.reduceEqDiff, Nat.reduceLT, Nat.reduceLeDiff, Nat.reduceAdd, Nat.reduceMul, Nat.reduceSub, Nat.reduceBEq, Int.reduceToNat, Int.reduceLE, Int.reduceLT, Int.reduceNeg, Nat.reduceMod, sid_ne1, sid_ne2, sid_inj, sid_mod, gT, TK.isInt, TK.agg, Array.toList, sameG_refl, dec_self, dec_self2, bne_self_eq_false, beq_self_eq_true, bool_ne_self, dec_true, hS2d, v1, v2, v6, v8, y2, y21, htop2, ht1, ht2, hln2]
  first | refine askK_of (c_laws_eqIntSS M M) ?_ | refine ⟨by kernel_rfl, askK_of (c_laws_eqIntSS M M) ?_⟩
  simp (maxSteps := 5000000) -dsimp only [↓gp, gq, reduceCtorEq, Nat.reduceEqDiff, Nat.reduceLT, Nat.reduceLeDiff, Nat.reduceAdd, Nat.reduceMul, Nat.reduceSub, Nat.reduceBEq, Int.reduceToNat, Int.reduceLE, Int.reduceLT, Int.reduceNeg, Nat.reduceMod, sid_ne1, sid_ne2, sid_inj, sid_mod, gT, TK.isInt, TK.agg, Array.toList, sameG_refl, dec_self, dec_self2, bne_self_eq_false, beq_self_eq_true, bool_ne_self, dec_true, hS2d, v1, v2, v6, v8, y2, y21, htop2, ht1, ht2]
  rw [hln2]
  rotate_left
  · intro j; simp (maxSteps := 5000000) -dsimp only [gr, Nat.reduceEqDiff, Nat.reduceLT, Nat.reduceAdd, Nat.reduceMod, Nat.reduceBEq, sid_mod, sid_ne1, sid_ne2, sid_inj]
  first | refine askK_of (c_laws_heldIntSSG M (by omega) (by omega)) ?_ | refine ⟨by kernel_rfl, askK_of (c_laws_heldIntSSG M (by omega) (by omega)) ?_⟩
  simp (maxSteps := 5000000) -dsimp only [↓gp, gq, reduceCtorEq, Nat.reduceEqDiff, Nat.reduceLT, Nat.reduceLeDiff, Nat.reduceAdd, Nat.reduceMul, Nat.reduceSub, Nat.reduceBEq, Int.reduceToNat, Int.reduceLE, Int.reduceLT, Int.reduceNeg, Nat.reduceMod, sid_ne1, sid_ne2, sid_inj, sid_mod, gT, TK.isInt, TK.agg, Array.toList, sameG_refl, dec_self, dec_self2, bne_self_eq_false, beq_self_eq_true, bool_ne_self, dec_true, hS2d, v1, v2, v6, v8, y2, y21, htop2, ht1, ht2]
  all_goals first | done | exact (by kernel_rfl) | exact ⟨by kernel_rfl, trivial⟩ | trivial
end Go.Proofs.Ytnfpeinbdfmlnaa
