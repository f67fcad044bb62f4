/- DERIVED by an AI agent. -/
import Derived.Test.YtfjjopfeipggiaaQ3
namespace Go.Proofs.Ytfjjopfeipggiaa
open Go.Abs
set_option linter.unusedSimpArgs false
set_option linter.unusedVariables false
/-- A graph: edges are sets of two points, in order. -/
def edgeP (n : Int) (xs : List Int) (k : Nat) : Prop := inSet n (xs.getD k 0) = true ∧ popN (xs.getD k 0).toNat = 2 ∧ (0 < k → xs.getD (k - 1) 0 < xs.getD k 0)
def graphP (n : Int) (xs : List Int) : Prop := 1 ≤ n ∧ n ≤ 6 ∧ ∀ k, k < xs.length → edgeP n xs k
open Classical in
noncomputable def isGraph (n : Int) (xs : List Int) : Bool := decide (graphP n xs)
open Classical in
theorem isGraph_no {n : Int} {xs : List Int} (h : ¬ graphP n xs) : isGraph n xs = false := decide_eq_false h
open Classical in
theorem isGraph_yes {n : Int} {xs : List Int} (h : graphP n xs) : isGraph n xs = true := decide_eq_true h
theorem c_spec_IsGraph (n : Int) (xs : List Int) : AC Try.prog 65 [.ag [int n, ints xs]] (.im (bool (isGraph n xs))) := by
  refine AC.go (rs := [.tmp 2]) T_ok mixed Try.func65 rfl rfl rfl (by kernel_rfl) fun hl => ?_
  simp only [lens_cons, lens_nil, and_true, lens2_ag2, lens1_v, lens1_iL, true_and] at hl
  simp (maxSteps := 5000000) -dsimp only [↓gp0, ↓gp1, ↓gp2, ↓gp3, ↓gp4, ↓gp5, ↓gp6, ↓gp7, ↓gp8, gq0, gq1, gq2, gq3, gq4, gq5, gq6, gq7, gq8, gq9, gq10, gq11, gq12, gq13, gq14, gq15, gq16, gq17, gq18, gq19, gq20, gq21, gq22, gq23, gq24, gq25, reduceCtorEq, Nat.reduceEqDiff, Nat.reduceLT, Nat.reduceLeDiff, Nat.reduceAdd, Nat.reduceMul, Nat.reduceSub, Nat.reduceBEq, Int.reduceToNat, Int.reduceLE, Int.reduceLT, Int.reduceNeg, Nat.reduceMod, gT, TK.isInt, TK.agg, Array.toList]
  refine loop_of (fun (k : Nat) s => s.sl 1 = .ref 1 1 0 ∧ s.rw 1 = ⟨1, .box 30 [int n, ints xs]⟩ ∧ s.sl 3 = int k ∧ k ≤ xs.length ∧ ∀ i, i < k → edgeP n xs i) (fun k => xs.length - k) 0 ⟨by simp (maxSteps := 5000000) -dsimp only [gr0, gr1, gr2, gr3, Nat.reduceEqDiff, Nat.reduceLT], by simp (maxSteps := 5000000) -dsimp only [gr0, gr1, gr2, gr3, Nat.reduceEqDiff, Nat.reduceLT], by simp (maxSteps := 5000000) -dsimp only [gr0, gr1, gr2, gr3, Nat.reduceEqDiff, Nat.reduceLT]; rfl, by simp, by simp⟩ ?_
  intro k s1 ⟨h1, r1, h3, hk, hall⟩
  have hw : IntKind.i64.wrap ((k : Int) - 1) = (k : Int) - 1 := wrap_id (by omega) (by omega)
  simp (maxSteps := 5000000) -dsimp only [↓gp0, ↓gp1, ↓gp2, ↓gp3, ↓gp4, ↓gp5, ↓gp6, ↓gp7, ↓gp8, gq0, gq1, gq2, gq3, gq4, gq5, gq6, gq7, gq8, gq9, gq10, gq11, gq12, gq13, gq14, gq15, gq16, gq17, gq18, gq19, gq20, gq21, gq22, gq23, gq24, gq25, reduceCtorEq, Nat.reduceEqDiff, Nat.reduceLT, Nat.reduceLeDiff, Nat.reduceAdd, Nat.reduceMul, Nat.reduceSub, Nat.reduceBEq, Int.reduceToNat, Int.reduceLE, Int.reduceLT, Int.reduceNeg, Nat.reduceMod, gT, TK.isInt, TK.agg, Array.toList, h1, r1, h3, hw, toNat_pred]
  refine ⟨fun h => ⟨by kernel_rfl, h, h, askK_of (c_spec_IsSet _ _) ?_⟩, fun h => askK_of (c_spec_l1In _ _ _) ?_⟩
  · simp (maxSteps := 5000000) -dsimp only [↓gp0, ↓gp1, ↓gp2, ↓gp3, ↓gp4, ↓gp5, ↓gp6, ↓gp7, ↓gp8, gq0, gq1, gq2, gq3, gq4, gq5, gq6, gq7, gq8, gq9, gq10, gq11, gq12, gq13, gq14, gq15, gq16, gq17, gq18, gq19, gq20, gq21, gq22, gq23, gq24, gq25, reduceCtorEq, Nat.reduceEqDiff, Nat.reduceLT, Nat.reduceLeDiff, Nat.reduceAdd, Nat.reduceMul, Nat.reduceSub, Nat.reduceBEq, Int.reduceToNat, Int.reduceLE, Int.reduceLT, Int.reduceNeg, Nat.reduceMod, gT, TK.isInt, TK.agg, Array.toList, h1, r1, h3, hw, toNat_pred]
    refine ⟨fun hs => ⟨h, h, ?_⟩, fun hs => ?_⟩
    · have hs : inSet n (xs.getD k 0) = true := by rwa [Bool.not_eq_false'] at hs
      have hb := inSet_lt hs
      refine askK_of (c_spec_l2Sizei hb.1 (by omega)) ?_
      simp (maxSteps := 5000000) -dsimp only [↓gp0, ↓gp1, ↓gp2, ↓gp3, ↓gp4, ↓gp5, ↓gp6, ↓gp7, ↓gp8, gq0, gq1, gq2, gq3, gq4, gq5, gq6, gq7, gq8, gq9, gq10, gq11, gq12, gq13, gq14, gq15, gq16, gq17, gq18, gq19, gq20, gq21, gq22, gq23, gq24, gq25, reduceCtorEq, Nat.reduceEqDiff, Nat.reduceLT, Nat.reduceLeDiff, Nat.reduceAdd, Nat.reduceMul, Nat.reduceSub, Nat.reduceBEq, Int.reduceToNat, Int.reduceLE, Int.reduceLT, Int.reduceNeg, Nat.reduceMod, gT, TK.isInt, TK.agg, Array.toList, h1, r1, h3, hw, toNat_pred]
      refine ⟨fun hq => ?_, fun hq => ?_⟩
      · have hq2 : popN (xs.getD k 0).toNat = 2 := by
          have := hq
          simp only [bne_eq_false_iff_eq] at this
          omega
        refine ⟨fun h0 => ⟨h, h, by omega, by omega, by omega, fun hle => ?_, fun hle => ?_⟩, fun h0 => ?_⟩
        · exact isGraph_no fun hg => by have := (hg.2.2 k h).2.2 (by omega); omega
        · refine again_of (k + 1) ⟨by simp (maxSteps := 5000000) -dsimp only [gr0, gr1, gr2, gr3, Nat.reduceEqDiff, Nat.reduceLT, h1], by simp (maxSteps := 5000000) -dsimp only [gr0, gr1, gr2, gr3, Nat.reduceEqDiff, Nat.reduceLT, r1], by simp (maxSteps := 5000000) -dsimp only [gr0, gr1, gr2, gr3, Nat.reduceEqDiff, Nat.reduceLT]; rw [wrap_nat h hl], h, fun j hj => ?_⟩ (by omega)
          rcases Nat.lt_succ_iff_lt_or_eq.1 hj with hj | rfl
          · exact hall j hj
          · exact ⟨hs, hq2, fun _ => by omega⟩
        · refine again_of (k + 1) ⟨by simp (maxSteps := 5000000) -dsimp only [gr0, gr1, gr2, gr3, Nat.reduceEqDiff, Nat.reduceLT, h1], by simp (maxSteps := 5000000) -dsimp only [gr0, gr1, gr2, gr3, Nat.reduceEqDiff, Nat.reduceLT, r1], by simp (maxSteps := 5000000) -dsimp only [gr0, gr1, gr2, gr3, Nat.reduceEqDiff, Nat.reduceLT]; rw [wrap_nat h hl], h, fun j hj => ?_⟩ (by omega)
          rcases Nat.lt_succ_iff_lt_or_eq.1 hj with hj | rfl
          · exact hall j hj
          · exact ⟨hs, hq2, fun _ => by omega⟩
      · refine isGraph_no fun hg => ?_
        have := (hg.2.2 k h).2.1
        rw [this] at hq
        simp at hq
    · have hs : inSet n (xs.getD k 0) = false := by rwa [Bool.not_eq_true'] at hs
      exact isGraph_no fun hg => by have := (hg.2.2 k h).1; rw [hs] at this; cases this
  · simp (maxSteps := 5000000) -dsimp only [↓gp0, ↓gp1, ↓gp2, ↓gp3, ↓gp4, ↓gp5, ↓gp6, ↓gp7, ↓gp8, gq0, gq1, gq2, gq3, gq4, gq5, gq6, gq7, gq8, gq9, gq10, gq11, gq12, gq13, gq14, gq15, gq16, gq17, gq18, gq19, gq20, gq21, gq22, gq23, gq24, gq25, reduceCtorEq, Nat.reduceEqDiff, Nat.reduceLT, Nat.reduceLeDiff, Nat.reduceAdd, Nat.reduceMul, Nat.reduceSub, Nat.reduceBEq, Int.reduceToNat, Int.reduceLE, Int.reduceLT, Int.reduceNeg, Nat.reduceMod, gT, TK.isInt, TK.agg, Array.toList, h1, r1, h3, hw, toNat_pred]
    by_cases hn : 1 ≤ n ∧ n ≤ 6
    · rw [isGraph_yes ⟨hn.1, hn.2, fun k hk => hall k (by omega)⟩]
      simp [hn.1, hn.2]
    · rw [isGraph_no fun hg => hn ⟨hg.1, hg.2.1⟩]
      symm
      rw [Bool.and_eq_false_iff, decide_eq_false_iff_not, decide_eq_false_iff_not]
      omega
theorem c_impl_IsGraph (n : Int) (xs : List Int) : AC Try.prog 66 [.ag [int n, ints xs]] (.im (bool (isGraph n xs))) := by
  refine AC.go (rs := [.tmp 2]) T_ok mixed Try.func66 rfl rfl rfl (by kernel_rfl) fun hl => ?_
  simp only [lens_cons, lens_nil, and_true, lens2_ag2, lens1_v, lens1_iL, true_and] at hl
  simp (maxSteps := 5000000) -dsimp only [↓gp0, ↓gp1, ↓gp2, ↓gp3, ↓gp4, ↓gp5, ↓gp6, ↓gp7, ↓gp8, gq0, gq1, gq2, gq3, gq4, gq5, gq6, gq7, gq8, gq9, gq10, gq11, gq12, gq13, gq14, gq15, gq16, gq17, gq18, gq19, gq20, gq21, gq22, gq23, gq24, gq25, reduceCtorEq, Nat.reduceEqDiff, Nat.reduceLT, Nat.reduceLeDiff, Nat.reduceAdd, Nat.reduceMul, Nat.reduceSub, Nat.reduceBEq, Int.reduceToNat, Int.reduceLE, Int.reduceLT, Int.reduceNeg, Nat.reduceMod, gT, TK.isInt, TK.agg, Array.toList]
  refine ⟨fun hn => ⟨fun h6 => isGraph_no fun hg => by have := hg.2.1; omega, fun h6 => ?_⟩, fun hn => isGraph_no fun hg => by have := hg.1; omega⟩
  refine loop_of (fun (k : Nat) s => s.sl 1 = .ref 1 1 0 ∧ s.rw 1 = ⟨1, .box 30 [int n, ints xs]⟩ ∧ s.sl 14 = ints xs ∧ s.sl 15 = int xs.length ∧ s.sl 16 = int k ∧ k ≤ xs.length ∧ ∀ i, i < k → edgeP n xs i) (fun k => xs.length - k) 0 ⟨by simp (maxSteps := 5000000) -dsimp only [gr0, gr1, gr2, gr3, Nat.reduceEqDiff, Nat.reduceLT], by simp (maxSteps := 5000000) -dsimp only [gr0, gr1, gr2, gr3, Nat.reduceEqDiff, Nat.reduceLT], by simp (maxSteps := 5000000) -dsimp only [gr0, gr1, gr2, gr3, Nat.reduceEqDiff, Nat.reduceLT], by simp (maxSteps := 5000000) -dsimp only [gr0, gr1, gr2, gr3, Nat.reduceEqDiff, Nat.reduceLT], by simp (maxSteps := 5000000) -dsimp only [gr0, gr1, gr2, gr3, Nat.reduceEqDiff, Nat.reduceLT]; rfl, by simp, by simp⟩ ?_
  intro k s1 ⟨h1, r1, h14, h15, h16, hk, hall⟩
  have hw : IntKind.i64.wrap ((k : Int) - 1) = (k : Int) - 1 := wrap_id (by omega) (by omega)
  simp (maxSteps := 5000000) -dsimp only [↓gp0, ↓gp1, ↓gp2, ↓gp3, ↓gp4, ↓gp5, ↓gp6, ↓gp7, ↓gp8, gq0, gq1, gq2, gq3, gq4, gq5, gq6, gq7, gq8, gq9, gq10, gq11, gq12, gq13, gq14, gq15, gq16, gq17, gq18, gq19, gq20, gq21, gq22, gq23, gq24, gq25, reduceCtorEq, Nat.reduceEqDiff, Nat.reduceLT, Nat.reduceLeDiff, Nat.reduceAdd, Nat.reduceMul, Nat.reduceSub, Nat.reduceBEq, Int.reduceToNat, Int.reduceLE, Int.reduceLT, Int.reduceNeg, Nat.reduceMod, gT, TK.isInt, TK.agg, Array.toList, h1, r1, h14, h15, h16, hw, toNat_pred]
  refine ⟨fun h => ⟨h, h, askK_of (c_impl_IsSet _ _) ?_⟩, fun h => isGraph_yes ⟨by omega, by omega, fun j hj => hall j (by omega)⟩⟩
  simp (maxSteps := 5000000) -dsimp only [↓gp0, ↓gp1, ↓gp2, ↓gp3, ↓gp4, ↓gp5, ↓gp6, ↓gp7, ↓gp8, gq0, gq1, gq2, gq3, gq4, gq5, gq6, gq7, gq8, gq9, gq10, gq11, gq12, gq13, gq14, gq15, gq16, gq17, gq18, gq19, gq20, gq21, gq22, gq23, gq24, gq25, reduceCtorEq, Nat.reduceEqDiff, Nat.reduceLT, Nat.reduceLeDiff, Nat.reduceAdd, Nat.reduceMul, Nat.reduceSub, Nat.reduceBEq, Int.reduceToNat, Int.reduceLE, Int.reduceLT, Int.reduceNeg, Nat.reduceMod, gT, TK.isInt, TK.agg, Array.toList, h1, r1, h14, h15, h16, hw, toNat_pred]
  refine ⟨fun hs => askK_of (c_impl_SizeOf _) ?_, fun hs => ?_⟩
  · have hs : inSet n (xs.getD k 0) = true := by rwa [Bool.not_eq_false'] at hs
    have hb := inSet_lt hs
    simp (maxSteps := 5000000) -dsimp only [↓gp0, ↓gp1, ↓gp2, ↓gp3, ↓gp4, ↓gp5, ↓gp6, ↓gp7, ↓gp8, gq0, gq1, gq2, gq3, gq4, gq5, gq6, gq7, gq8, gq9, gq10, gq11, gq12, gq13, gq14, gq15, gq16, gq17, gq18, gq19, gq20, gq21, gq22, gq23, gq24, gq25, reduceCtorEq, Nat.reduceEqDiff, Nat.reduceLT, Nat.reduceLeDiff, Nat.reduceAdd, Nat.reduceMul, Nat.reduceSub, Nat.reduceBEq, Int.reduceToNat, Int.reduceLE, Int.reduceLT, Int.reduceNeg, Nat.reduceMod, gT, TK.isInt, TK.agg, Array.toList, h1, r1, h14, h15, h16, hw, toNat_pred]
    have hz : szOf (xs.getD k 0) = (popN (xs.getD k 0).toNat : Nat) := by rw [szOf, if_pos hb]
    rw [hz]
    refine ⟨fun hq => ?_, fun hq => ?_⟩
    · refine isGraph_no fun hg => ?_
      have := (hg.2.2 k h).2.1
      rw [this] at hq
      simp at hq
    · have hq2 : popN (xs.getD k 0).toNat = 2 := by
        have := hq
        simp only [bne_eq_false_iff_eq] at this
        omega
      refine ⟨fun h0 => ⟨by omega, by omega, by omega, askK_of (c_impl_BeforeSet _ _) ?_⟩, fun h0 => ?_⟩
      · have hp := hall (k - 1) (by omega)
        have hb' := inSet_lt hp.1
        have e : befS (xs.getD (k - 1) 0) (xs.getD k 0) = decide (xs.getD (k - 1) 0 < xs.getD k 0) := by
          unfold befS
          rw [decide_eq_true hb', decide_eq_true hb, if_pos (by rw [szOf, szOf, if_pos hb', if_pos hb, hp.2.1, hq2])]
          rfl
        simp (maxSteps := 5000000) -dsimp only [↓gp0, ↓gp1, ↓gp2, ↓gp3, ↓gp4, ↓gp5, ↓gp6, ↓gp7, ↓gp8, gq0, gq1, gq2, gq3, gq4, gq5, gq6, gq7, gq8, gq9, gq10, gq11, gq12, gq13, gq14, gq15, gq16, gq17, gq18, gq19, gq20, gq21, gq22, gq23, gq24, gq25, reduceCtorEq, Nat.reduceEqDiff, Nat.reduceLT, Nat.reduceLeDiff, Nat.reduceAdd, Nat.reduceMul, Nat.reduceSub, Nat.reduceBEq, Int.reduceToNat, Int.reduceLE, Int.reduceLT, Int.reduceNeg, Nat.reduceMod, gT, TK.isInt, TK.agg, Array.toList, h1, r1, h14, h15, h16, hw, toNat_pred, e]
        refine ⟨fun hlt => ?_, fun hlt => ?_⟩
        · have hlt : ¬ xs.getD (k - 1) 0 < xs.getD k 0 := by simpa using hlt
          exact isGraph_no fun hg => hlt ((hg.2.2 k h).2.2 (by omega))
        · have hlt : xs.getD (k - 1) 0 < xs.getD k 0 := by
            rw [Bool.not_eq_false'] at hlt
            exact of_decide_eq_true hlt
          refine again_of (k + 1) ⟨by simp (maxSteps := 5000000) -dsimp only [gr0, gr1, gr2, gr3, Nat.reduceEqDiff, Nat.reduceLT, h1], by simp (maxSteps := 5000000) -dsimp only [gr0, gr1, gr2, gr3, Nat.reduceEqDiff, Nat.reduceLT, r1], by simp (maxSteps := 5000000) -dsimp only [gr0, gr1, gr2, gr3, Nat.reduceEqDiff, Nat.reduceLT, h14], by simp (maxSteps := 5000000) -dsimp only [gr0, gr1, gr2, gr3, Nat.reduceEqDiff, Nat.reduceLT, h15], by simp (maxSteps := 5000000) -dsimp only [gr0, gr1, gr2, gr3, Nat.reduceEqDiff, Nat.reduceLT]; rw [wrap_nat h hl], h, fun j hj => ?_⟩ (by omega)
          rcases Nat.lt_succ_iff_lt_or_eq.1 hj with hj | rfl
          · exact hall j hj
          · exact ⟨hs, hq2, fun _ => hlt⟩
      · refine again_of (k + 1) ⟨by simp (maxSteps := 5000000) -dsimp only [gr0, gr1, gr2, gr3, Nat.reduceEqDiff, Nat.reduceLT, h1], by simp (maxSteps := 5000000) -dsimp only [gr0, gr1, gr2, gr3, Nat.reduceEqDiff, Nat.reduceLT, r1], by simp (maxSteps := 5000000) -dsimp only [gr0, gr1, gr2, gr3, Nat.reduceEqDiff, Nat.reduceLT, h14], by simp (maxSteps := 5000000) -dsimp only [gr0, gr1, gr2, gr3, Nat.reduceEqDiff, Nat.reduceLT, h15], by simp (maxSteps := 5000000) -dsimp only [gr0, gr1, gr2, gr3, Nat.reduceEqDiff, Nat.reduceLT]; rw [wrap_nat h hl], h, fun j hj => ?_⟩ (by omega)
        rcases Nat.lt_succ_iff_lt_or_eq.1 hj with hj | rfl
        · exact hall j hj
        · exact ⟨hs, hq2, fun _ => by omega⟩
  · have hs : inSet n (xs.getD k 0) = false := by rwa [Bool.not_eq_true'] at hs
    exact isGraph_no fun hg => by have := (hg.2.2 k h).1; rw [hs] at this; cases this
end Go.Proofs.Ytfjjopfeipggiaa
