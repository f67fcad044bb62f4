/- DERIVED by an AI agent. -/
import Derived.Test.YtfjjopfeipggiaaQ6
namespace Go.Proofs.Ytfjjopfeipggiaa
open Go.Abs
set_option linter.unusedSimpArgs false
set_option linter.unusedVariables false

theorem sameG_refl (n : Int) (xs : List Int) : sameG n xs n xs = true := by simp [sameG]
theorem c_laws_FnExactEdgeIdeal (n : Int) (xs : List Int) : AC Try.prog 3 [.ag [int n, ints xs]] (.im (bool true)) := by
  refine AC.go (rs := [.tmp 2]) T_ok mixed Try.func3 rfl rfl rfl (by kernel_rfl) fun hl => ?_
  simp (maxSteps := 5000000) -dsimp only [↓gp0, ↓gp1, ↓gp2, ↓gp3, ↓gp4, ↓gp5, ↓gp6, ↓gp7, ↓gp8, gq0, gq1, gq2, gq3, gq4, gq5, gq6, gq7, gq8, gq9, gq10, gq11, gq12, gq13, gq14, gq15, gq16, gq17, gq18, gq19, gq20, gq21, gq22, gq23, gq24, reduceCtorEq, Nat.reduceEqDiff, Nat.reduceLT, Nat.reduceLeDiff, Nat.reduceAdd, Nat.reduceMul, Nat.reduceSub, Nat.reduceBEq, Int.reduceToNat, Int.reduceLE, Int.reduceLT, Int.reduceNeg, Nat.reduceMod, gT, TK.isInt, TK.agg, Array.toList]
  refine askK_of (c_laws_szGraph n xs 1048576 (by decide) (by decide)) ?_
  simp (maxSteps := 5000000) -dsimp only [↓gp0, ↓gp1, ↓gp2, ↓gp3, ↓gp4, ↓gp5, ↓gp6, ↓gp7, ↓gp8, gq0, gq1, gq2, gq3, gq4, gq5, gq6, gq7, gq8, gq9, gq10, gq11, gq12, gq13, gq14, gq15, gq16, gq17, gq18, gq19, gq20, gq21, gq22, gq23, gq24, reduceCtorEq, Nat.reduceEqDiff, Nat.reduceLT, Nat.reduceLeDiff, Nat.reduceAdd, Nat.reduceMul, Nat.reduceSub, Nat.reduceBEq, Int.reduceToNat, Int.reduceLE, Int.reduceLT, Int.reduceNeg, Nat.reduceMod, gT, TK.isInt, TK.agg, Array.toList]
  intro h
  obtain ⟨_, _, hx⟩ := szI_le (n := 1048576) (k := xs.length) (by decide) (by simpa using h)
  refine askK_of (c_laws_toGraph n xs hx) ?_
  simp (maxSteps := 5000000) -dsimp only [↓gp0, ↓gp1, ↓gp2, ↓gp3, ↓gp4, ↓gp5, ↓gp6, ↓gp7, ↓gp8, gq0, gq1, gq2, gq3, gq4, gq5, gq6, gq7, gq8, gq9, gq10, gq11, gq12, gq13, gq14, gq15, gq16, gq17, gq18, gq19, gq20, gq21, gq22, gq23, gq24, reduceCtorEq, Nat.reduceEqDiff, Nat.reduceLT, Nat.reduceLeDiff, Nat.reduceAdd, Nat.reduceMul, Nat.reduceSub, Nat.reduceBEq, Int.reduceToNat, Int.reduceLE, Int.reduceLT, Int.reduceNeg, Nat.reduceMod, gT, TK.isInt, TK.agg, Array.toList]
  refine askK_of (c_spec_EdgeIdeal n xs hx) ?_
  unfold idealOf
  generalize hn' : (if isGraph n xs = true then n else 0) = n'
  generalize hx' : (if isGraph n xs = true then xs else []) = xs'
  have hb : xs'.length ≤ 1048576 := by rw [← hx']; split <;> simp [hx]
  simp (maxSteps := 5000000) -dsimp only [↓gp0, ↓gp1, ↓gp2, ↓gp3, ↓gp4, ↓gp5, ↓gp6, ↓gp7, ↓gp8, gq0, gq1, gq2, gq3, gq4, gq5, gq6, gq7, gq8, gq9, gq10, gq11, gq12, gq13, gq14, gq15, gq16, gq17, gq18, gq19, gq20, gq21, gq22, gq23, gq24, reduceCtorEq, Nat.reduceEqDiff, Nat.reduceLT, Nat.reduceLeDiff, Nat.reduceAdd, Nat.reduceMul, Nat.reduceSub, Nat.reduceBEq, Int.reduceToNat, Int.reduceLE, Int.reduceLT, Int.reduceNeg, Nat.reduceMod, gT, TK.isInt, TK.agg, Array.toList]
  refine askK_of (c_laws_toGraph n xs hx) ?_
  simp (maxSteps := 5000000) -dsimp only [↓gp0, ↓gp1, ↓gp2, ↓gp3, ↓gp4, ↓gp5, ↓gp6, ↓gp7, ↓gp8, gq0, gq1, gq2, gq3, gq4, gq5, gq6, gq7, gq8, gq9, gq10, gq11, gq12, gq13, gq14, gq15, gq16, gq17, gq18, gq19, gq20, gq21, gq22, gq23, gq24, reduceCtorEq, Nat.reduceEqDiff, Nat.reduceLT, Nat.reduceLeDiff, Nat.reduceAdd, Nat.reduceMul, Nat.reduceSub, Nat.reduceBEq, Int.reduceToNat, Int.reduceLE, Int.reduceLT, Int.reduceNeg, Nat.reduceMod, gT, TK.isInt, TK.agg, Array.toList]
  refine askK_of (c_impl_EdgeIdeal n xs hx) ?_
  unfold idealOf
  rw [hn', hx']
  simp (maxSteps := 5000000) -dsimp only [↓gp0, ↓gp1, ↓gp2, ↓gp3, ↓gp4, ↓gp5, ↓gp6, ↓gp7, ↓gp8, gq0, gq1, gq2, gq3, gq4, gq5, gq6, gq7, gq8, gq9, gq10, gq11, gq12, gq13, gq14, gq15, gq16, gq17, gq18, gq19, gq20, gq21, gq22, gq23, gq24, reduceCtorEq, Nat.reduceEqDiff, Nat.reduceLT, Nat.reduceLeDiff, Nat.reduceAdd, Nat.reduceMul, Nat.reduceSub, Nat.reduceBEq, Int.reduceToNat, Int.reduceLE, Int.reduceLT, Int.reduceNeg, Nat.reduceMod, gT, TK.isInt, TK.agg, Array.toList]
  refine askK_of (c_laws_eqIdeal _ _ _ _) ?_
  simp (maxSteps := 5000000) -dsimp only [↓gp0, ↓gp1, ↓gp2, ↓gp3, ↓gp4, ↓gp5, ↓gp6, ↓gp7, ↓gp8, gq0, gq1, gq2, gq3, gq4, gq5, gq6, gq7, gq8, gq9, gq10, gq11, gq12, gq13, gq14, gq15, gq16, gq17, gq18, gq19, gq20, gq21, gq22, gq23, gq24, reduceCtorEq, Nat.reduceEqDiff, Nat.reduceLT, Nat.reduceLeDiff, Nat.reduceAdd, Nat.reduceMul, Nat.reduceSub, Nat.reduceBEq, Int.reduceToNat, Int.reduceLE, Int.reduceLT, Int.reduceNeg, Nat.reduceMod, gT, TK.isInt, TK.agg, Array.toList, sameG_refl, bne_self_eq_false]
  refine ⟨by kernel_rfl, askK_of (c_laws_toGraph n xs hx) ?_⟩
  simp (maxSteps := 5000000) -dsimp only [↓gp0, ↓gp1, ↓gp2, ↓gp3, ↓gp4, ↓gp5, ↓gp6, ↓gp7, ↓gp8, gq0, gq1, gq2, gq3, gq4, gq5, gq6, gq7, gq8, gq9, gq10, gq11, gq12, gq13, gq14, gq15, gq16, gq17, gq18, gq19, gq20, gq21, gq22, gq23, gq24, reduceCtorEq, Nat.reduceEqDiff, Nat.reduceLT, Nat.reduceLeDiff, Nat.reduceAdd, Nat.reduceMul, Nat.reduceSub, Nat.reduceBEq, Int.reduceToNat, Int.reduceLE, Int.reduceLT, Int.reduceNeg, Nat.reduceMod, gT, TK.isInt, TK.agg, Array.toList]
  refine askK_of (c_laws_eqGraph _ _ _ _) ?_
  simp (maxSteps := 5000000) -dsimp only [↓gp0, ↓gp1, ↓gp2, ↓gp3, ↓gp4, ↓gp5, ↓gp6, ↓gp7, ↓gp8, gq0, gq1, gq2, gq3, gq4, gq5, gq6, gq7, gq8, gq9, gq10, gq11, gq12, gq13, gq14, gq15, gq16, gq17, gq18, gq19, gq20, gq21, gq22, gq23, gq24, reduceCtorEq, Nat.reduceEqDiff, Nat.reduceLT, Nat.reduceLeDiff, Nat.reduceAdd, Nat.reduceMul, Nat.reduceSub, Nat.reduceBEq, Int.reduceToNat, Int.reduceLE, Int.reduceLT, Int.reduceNeg, Nat.reduceMod, gT, TK.isInt, TK.agg, Array.toList, sameG_refl, bne_self_eq_false]
  refine ⟨by kernel_rfl, askM_of (c_laws_markGraph n xs 1 (by omega) (by decide) (by decide)) [(26, 1)] (by repeat (first | exact GiveL.nil | refine GiveL.v ?_ | refine GiveL.own 0 rfl ?_ | refine GiveL.own 1 rfl ?_ | refine GiveL.ag ?_ ?_)) ⟨by simp (maxSteps := 5000000) -dsimp only [gr0, gr1, gr2, gr3, Nat.reduceEqDiff, Nat.reduceLT], trivial⟩ (by decide) ?_⟩
  have hp : decide ((1 : Int) + xs.length < 0) = false := by simp; omega
  have hq : decide ((1 : Int) + xs'.length < 0) = false := by simp; omega
  simp (maxSteps := 5000000) -dsimp only [↓gp0, ↓gp1, ↓gp2, ↓gp3, ↓gp4, ↓gp5, ↓gp6, ↓gp7, ↓gp8, gq0, gq1, gq2, gq3, gq4, gq5, gq6, gq7, gq8, gq9, gq10, gq11, gq12, gq13, gq14, gq15, gq16, gq17, gq18, gq19, gq20, gq21, gq22, gq23, gq24, reduceCtorEq, Nat.reduceEqDiff, Nat.reduceLT, Nat.reduceLeDiff, Nat.reduceAdd, Nat.reduceMul, Nat.reduceSub, Nat.reduceBEq, Int.reduceToNat, Int.reduceLE, Int.reduceLT, Int.reduceNeg, Nat.reduceMod, gT, TK.isInt, TK.agg, Array.toList, hp]
  refine askK_of (c_laws_eqIdeal _ _ _ _) ?_
  simp (maxSteps := 5000000) -dsimp only [↓gp0, ↓gp1, ↓gp2, ↓gp3, ↓gp4, ↓gp5, ↓gp6, ↓gp7, ↓gp8, gq0, gq1, gq2, gq3, gq4, gq5, gq6, gq7, gq8, gq9, gq10, gq11, gq12, gq13, gq14, gq15, gq16, gq17, gq18, gq19, gq20, gq21, gq22, gq23, gq24, reduceCtorEq, Nat.reduceEqDiff, Nat.reduceLT, Nat.reduceLeDiff, Nat.reduceAdd, Nat.reduceMul, Nat.reduceSub, Nat.reduceBEq, Int.reduceToNat, Int.reduceLE, Int.reduceLT, Int.reduceNeg, Nat.reduceMod, gT, TK.isInt, TK.agg, Array.toList, sameG_refl, bne_self_eq_false]
  refine askM_of (c_laws_markIdeal n' xs' 1 (by omega) (by decide) (by decide)) [(29, 1)] (by repeat (first | exact GiveL.nil | refine GiveL.v ?_ | refine GiveL.own 0 rfl ?_ | refine GiveL.own 1 rfl ?_ | refine GiveL.ag ?_ ?_)) ⟨by simp (maxSteps := 5000000) -dsimp only [gr0, gr1, gr2, gr3, Nat.reduceEqDiff, Nat.reduceLT], trivial⟩ (by decide) ?_
  simp (maxSteps := 5000000) -dsimp only [↓gp0, ↓gp1, ↓gp2, ↓gp3, ↓gp4, ↓gp5, ↓gp6, ↓gp7, ↓gp8, gq0, gq1, gq2, gq3, gq4, gq5, gq6, gq7, gq8, gq9, gq10, gq11, gq12, gq13, gq14, gq15, gq16, gq17, gq18, gq19, gq20, gq21, gq22, gq23, gq24, reduceCtorEq, Nat.reduceEqDiff, Nat.reduceLT, Nat.reduceLeDiff, Nat.reduceAdd, Nat.reduceMul, Nat.reduceSub, Nat.reduceBEq, Int.reduceToNat, Int.reduceLE, Int.reduceLT, Int.reduceNeg, Nat.reduceMod, gT, TK.isInt, TK.agg, Array.toList]
  refine askK_of (c_laws_heldIdeal n' 1 xs'.length (by omega) (by decide) (by decide)) ?_
  simp (maxSteps := 5000000) -dsimp only [↓gp0, ↓gp1, ↓gp2, ↓gp3, ↓gp4, ↓gp5, ↓gp6, ↓gp7, ↓gp8, gq0, gq1, gq2, gq3, gq4, gq5, gq6, gq7, gq8, gq9, gq10, gq11, gq12, gq13, gq14, gq15, gq16, gq17, gq18, gq19, gq20, gq21, gq22, gq23, gq24, reduceCtorEq, Nat.reduceEqDiff, Nat.reduceLT, Nat.reduceLeDiff, Nat.reduceAdd, Nat.reduceMul, Nat.reduceSub, Nat.reduceBEq, Int.reduceToNat, Int.reduceLE, Int.reduceLT, Int.reduceNeg, Nat.reduceMod, gT, TK.isInt, TK.agg, Array.toList, hq, bne_self_eq_false]
  refine askK_of (c_laws_toGraph n xs hx) ?_
  simp (maxSteps := 5000000) -dsimp only [↓gp0, ↓gp1, ↓gp2, ↓gp3, ↓gp4, ↓gp5, ↓gp6, ↓gp7, ↓gp8, gq0, gq1, gq2, gq3, gq4, gq5, gq6, gq7, gq8, gq9, gq10, gq11, gq12, gq13, gq14, gq15, gq16, gq17, gq18, gq19, gq20, gq21, gq22, gq23, gq24, reduceCtorEq, Nat.reduceEqDiff, Nat.reduceLT, Nat.reduceLeDiff, Nat.reduceAdd, Nat.reduceMul, Nat.reduceSub, Nat.reduceBEq, Int.reduceToNat, Int.reduceLE, Int.reduceLT, Int.reduceNeg, Nat.reduceMod, gT, TK.isInt, TK.agg, Array.toList]
  refine askK_of (c_impl_EdgeIdeal n xs hx) ?_
  unfold idealOf
  rw [hn', hx']
  simp (maxSteps := 5000000) -dsimp only [↓gp0, ↓gp1, ↓gp2, ↓gp3, ↓gp4, ↓gp5, ↓gp6, ↓gp7, ↓gp8, gq0, gq1, gq2, gq3, gq4, gq5, gq6, gq7, gq8, gq9, gq10, gq11, gq12, gq13, gq14, gq15, gq16, gq17, gq18, gq19, gq20, gq21, gq22, gq23, gq24, reduceCtorEq, Nat.reduceEqDiff, Nat.reduceLT, Nat.reduceLeDiff, Nat.reduceAdd, Nat.reduceMul, Nat.reduceSub, Nat.reduceBEq, Int.reduceToNat, Int.reduceLE, Int.reduceLT, Int.reduceNeg, Nat.reduceMod, gT, TK.isInt, TK.agg, Array.toList]
  refine askK_of (c_laws_eqIdeal _ _ _ _) ?_
  simp (maxSteps := 5000000) -dsimp only [↓gp0, ↓gp1, ↓gp2, ↓gp3, ↓gp4, ↓gp5, ↓gp6, ↓gp7, ↓gp8, gq0, gq1, gq2, gq3, gq4, gq5, gq6, gq7, gq8, gq9, gq10, gq11, gq12, gq13, gq14, gq15, gq16, gq17, gq18, gq19, gq20, gq21, gq22, gq23, gq24, reduceCtorEq, Nat.reduceEqDiff, Nat.reduceLT, Nat.reduceLeDiff, Nat.reduceAdd, Nat.reduceMul, Nat.reduceSub, Nat.reduceBEq, Int.reduceToNat, Int.reduceLE, Int.reduceLT, Int.reduceNeg, Nat.reduceMod, gT, TK.isInt, TK.agg, Array.toList, sameG_refl, bne_self_eq_false]
  refine askK_of (c_laws_heldIdeal n' 1 xs'.length (by omega) (by decide) (by decide)) ?_
  simp (maxSteps := 5000000) -dsimp only [↓gp0, ↓gp1, ↓gp2, ↓gp3, ↓gp4, ↓gp5, ↓gp6, ↓gp7, ↓gp8, gq0, gq1, gq2, gq3, gq4, gq5, gq6, gq7, gq8, gq9, gq10, gq11, gq12, gq13, gq14, gq15, gq16, gq17, gq18, gq19, gq20, gq21, gq22, gq23, gq24, reduceCtorEq, Nat.reduceEqDiff, Nat.reduceLT, Nat.reduceLeDiff, Nat.reduceAdd, Nat.reduceMul, Nat.reduceSub, Nat.reduceBEq, Int.reduceToNat, Int.reduceLE, Int.reduceLT, Int.reduceNeg, Nat.reduceMod, gT, TK.isInt, TK.agg, Array.toList, hq, bne_self_eq_false]
end Go.Proofs.Ytfjjopfeipggiaa
