/- DERIVED by an AI agent. -/
import Derived.Test.YtfjjopfeipggiaaB1
import Derived.Test.YtfjjopfeipggiaaP1
namespace Go.Proofs.Ytfjjopfeipggiaa
open Go.Abs
set_option linter.unusedSimpArgs false
set_option linter.unusedVariables false

def icmp (a b : Int) : Int := if a < b then -1 else if b < a then 1 else 0
theorem c_cmp_isNaN (a : Int) : AC Try.prog 136 [int a] (.im (bool false)) := by
  refine AC.go (rs := [.tmp 2]) T_ok mixed Try.func136 rfl rfl rfl (by kernel_rfl) fun _ => ?_
  simp (maxSteps := 5000000) -dsimp only [↓gp0, ↓gp1, ↓gp2, ↓gp3, ↓gp4, ↓gp5, ↓gp6, ↓gp7, ↓gp8, gq0, gq1, gq2, gq3, gq4, gq5, gq6, gq7, gq8, gq9, gq10, gq11, gq12, gq13, gq14, gq15, gq16, gq17, gq18, gq19, gq20, gq21, gq22, gq23, gq24, gq25, reduceCtorEq, Nat.reduceEqDiff, Nat.reduceLT, Nat.reduceLeDiff, Nat.reduceAdd, Nat.reduceMul, Nat.reduceSub, Nat.reduceBEq, Int.reduceToNat, Int.reduceLE, Int.reduceLT, Int.reduceNeg, Nat.reduceMod, gT, TK.isInt, TK.agg, Array.toList]
  simp
theorem c_cmp_Compare (a b : Int) : AC Try.prog 130 [int a, int b] (.im (int (icmp a b))) := by
  refine AC.go (rs := [.tmp 4]) T_ok mixed Try.func130 rfl rfl rfl (by kernel_rfl) fun _ => ?_
  simp (maxSteps := 5000000) -dsimp only [↓gp0, ↓gp1, ↓gp2, ↓gp3, ↓gp4, ↓gp5, ↓gp6, ↓gp7, ↓gp8, gq0, gq1, gq2, gq3, gq4, gq5, gq6, gq7, gq8, gq9, gq10, gq11, gq12, gq13, gq14, gq15, gq16, gq17, gq18, gq19, gq20, gq21, gq22, gq23, gq24, gq25, reduceCtorEq, Nat.reduceEqDiff, Nat.reduceLT, Nat.reduceLeDiff, Nat.reduceAdd, Nat.reduceMul, Nat.reduceSub, Nat.reduceBEq, Int.reduceToNat, Int.reduceLE, Int.reduceLT, Int.reduceNeg, Nat.reduceMod, gT, TK.isInt, TK.agg, Array.toList]
  refine askK_of (c_cmp_isNaN a) ?_
  simp (maxSteps := 5000000) -dsimp only [↓gp0, ↓gp1, ↓gp2, ↓gp3, ↓gp4, ↓gp5, ↓gp6, ↓gp7, ↓gp8, gq0, gq1, gq2, gq3, gq4, gq5, gq6, gq7, gq8, gq9, gq10, gq11, gq12, gq13, gq14, gq15, gq16, gq17, gq18, gq19, gq20, gq21, gq22, gq23, gq24, gq25, reduceCtorEq, Nat.reduceEqDiff, Nat.reduceLT, Nat.reduceLeDiff, Nat.reduceAdd, Nat.reduceMul, Nat.reduceSub, Nat.reduceBEq, Int.reduceToNat, Int.reduceLE, Int.reduceLT, Int.reduceNeg, Nat.reduceMod, gT, TK.isInt, TK.agg, Array.toList]
  refine askK_of (c_cmp_isNaN b) ?_
  simp (maxSteps := 5000000) -dsimp only [↓gp0, ↓gp1, ↓gp2, ↓gp3, ↓gp4, ↓gp5, ↓gp6, ↓gp7, ↓gp8, gq0, gq1, gq2, gq3, gq4, gq5, gq6, gq7, gq8, gq9, gq10, gq11, gq12, gq13, gq14, gq15, gq16, gq17, gq18, gq19, gq20, gq21, gq22, gq23, gq24, gq25, reduceCtorEq, Nat.reduceEqDiff, Nat.reduceLT, Nat.reduceLeDiff, Nat.reduceAdd, Nat.reduceMul, Nat.reduceSub, Nat.reduceBEq, Int.reduceToNat, Int.reduceLE, Int.reduceLT, Int.reduceNeg, Nat.reduceMod, gT, TK.isInt, TK.agg, Array.toList]
  unfold icmp
  refine ⟨fun h => ?_, fun h => ⟨fun h2 => ?_, fun h2 => ?_⟩⟩
  · simp [h]
  · simp [h, h2]
  · simp [h, h2]
theorem c_spec_l1In (a b c : Int) : AC Try.prog 77 [int a, int b, int c] (.im (bool (decide (b ≤ a) && decide (a ≤ c)))) := by
  refine AC.go (rs := [.tmp 6]) T_ok mixed Try.func77 rfl rfl rfl (by kernel_rfl) fun _ => ?_
  simp (maxSteps := 5000000) -dsimp only [↓gp0, ↓gp1, ↓gp2, ↓gp3, ↓gp4, ↓gp5, ↓gp6, ↓gp7, ↓gp8, gq0, gq1, gq2, gq3, gq4, gq5, gq6, gq7, gq8, gq9, gq10, gq11, gq12, gq13, gq14, gq15, gq16, gq17, gq18, gq19, gq20, gq21, gq22, gq23, gq24, gq25, reduceCtorEq, Nat.reduceEqDiff, Nat.reduceLT, Nat.reduceLeDiff, Nat.reduceAdd, Nat.reduceMul, Nat.reduceSub, Nat.reduceBEq, Int.reduceToNat, Int.reduceLE, Int.reduceLT, Int.reduceNeg, Nat.reduceMod, gT, TK.isInt, TK.agg, Array.toList]
  exact ⟨fun h => by simp [h], fun h => by simp [h]⟩
def div3 (xs ys : List Int) : Bool := decide (xs.getD 0 0 ≤ ys.getD 0 0) && decide (xs.getD 1 0 ≤ ys.getD 1 0) && decide (xs.getD 2 0 ≤ ys.getD 2 0)
theorem c_spec_l35Divides (xs ys : List Int) (h1 : 3 ≤ xs.length) (h2 : 3 ≤ ys.length) : AC Try.prog 79 [ints xs, ints ys] (.im (bool (div3 xs ys))) := by
  refine AC.go (rs := [.tmp 4]) T_ok mixed Try.func79 rfl rfl rfl (by kernel_rfl) fun _ => ?_
  simp (maxSteps := 5000000) -dsimp only [↓gp0, ↓gp1, ↓gp2, ↓gp3, ↓gp4, ↓gp5, ↓gp6, ↓gp7, ↓gp8, gq0, gq1, gq2, gq3, gq4, gq5, gq6, gq7, gq8, gq9, gq10, gq11, gq12, gq13, gq14, gq15, gq16, gq17, gq18, gq19, gq20, gq21, gq22, gq23, gq24, gq25, reduceCtorEq, Nat.reduceEqDiff, Nat.reduceLT, Nat.reduceLeDiff, Nat.reduceAdd, Nat.reduceMul, Nat.reduceSub, Nat.reduceBEq, Int.reduceToNat, Int.reduceLE, Int.reduceLT, Int.reduceNeg, Nat.reduceMod, gT, TK.isInt, TK.agg, Array.toList]
  unfold div3
  refine ⟨by kernel_rfl, by omega, by omega, by omega, by omega, fun h => ⟨by omega, by omega, by omega, by omega, fun h3 => ⟨by omega, by omega, by omega, by omega, ?_⟩, fun h3 => ?_⟩, fun h => ?_⟩
  · simp only [h, h3, decide_true, Bool.true_and]
  · simp only [h, h3, decide_true, decide_false, Bool.and_false, Bool.false_and]
  · simp only [h, decide_false, Bool.false_and]
def isPow (xs : List Int) : Bool := xs.length == 3 && xs.all fun n => decide (0 ≤ n) && decide (n ≤ 2)
theorem isPow_len {xs : List Int} (h : xs.length = 3) : isPow xs = ((decide (0 ≤ xs.getD 0 0) && decide (xs.getD 0 0 ≤ 2)) && (decide (0 ≤ xs.getD 1 0) && decide (xs.getD 1 0 ≤ 2)) && (decide (0 ≤ xs.getD 2 0) && decide (xs.getD 2 0 ≤ 2))) := by
  match xs, h with
  | [a, b, c], _ => simp [isPow, Bool.and_assoc]
theorem c_spec_l35List (xs : List Int) : AC Try.prog 91 [ints xs] (.im (bool (isPow xs))) := by
  refine AC.go (rs := [.tmp 2]) T_ok mixed Try.func91 rfl rfl rfl (by kernel_rfl) fun hl => ?_
  simp (maxSteps := 5000000) -dsimp only [↓gp0, ↓gp1, ↓gp2, ↓gp3, ↓gp4, ↓gp5, ↓gp6, ↓gp7, ↓gp8, gq0, gq1, gq2, gq3, gq4, gq5, gq6, gq7, gq8, gq9, gq10, gq11, gq12, gq13, gq14, gq15, gq16, gq17, gq18, gq19, gq20, gq21, gq22, gq23, gq24, gq25, reduceCtorEq, Nat.reduceEqDiff, Nat.reduceLT, Nat.reduceLeDiff, Nat.reduceAdd, Nat.reduceMul, Nat.reduceSub, Nat.reduceBEq, Int.reduceToNat, Int.reduceLE, Int.reduceLT, Int.reduceNeg, Nat.reduceMod, gT, TK.isInt, TK.agg, Array.toList]
  refine ⟨fun h => ?_, fun h => ?_⟩
  · simp at h
    have hn : xs.length = 3 := by omega
    rw [isPow_len hn]
    refine ⟨by omega, by omega, askK_of (c_spec_l1In _ _ _) ?_⟩
    simp (maxSteps := 5000000) -dsimp only [↓gp0, ↓gp1, ↓gp2, ↓gp3, ↓gp4, ↓gp5, ↓gp6, ↓gp7, ↓gp8, gq0, gq1, gq2, gq3, gq4, gq5, gq6, gq7, gq8, gq9, gq10, gq11, gq12, gq13, gq14, gq15, gq16, gq17, gq18, gq19, gq20, gq21, gq22, gq23, gq24, gq25, reduceCtorEq, Nat.reduceEqDiff, Nat.reduceLT, Nat.reduceLeDiff, Nat.reduceAdd, Nat.reduceMul, Nat.reduceSub, Nat.reduceBEq, Int.reduceToNat, Int.reduceLE, Int.reduceLT, Int.reduceNeg, Nat.reduceMod, gT, TK.isInt, TK.agg, Array.toList]
    refine ⟨fun h0 => ⟨by omega, by omega, askK_of (c_spec_l1In _ _ _) ?_⟩, fun h0 => ?_⟩
    · simp (maxSteps := 5000000) -dsimp only [↓gp0, ↓gp1, ↓gp2, ↓gp3, ↓gp4, ↓gp5, ↓gp6, ↓gp7, ↓gp8, gq0, gq1, gq2, gq3, gq4, gq5, gq6, gq7, gq8, gq9, gq10, gq11, gq12, gq13, gq14, gq15, gq16, gq17, gq18, gq19, gq20, gq21, gq22, gq23, gq24, gq25, reduceCtorEq, Nat.reduceEqDiff, Nat.reduceLT, Nat.reduceLeDiff, Nat.reduceAdd, Nat.reduceMul, Nat.reduceSub, Nat.reduceBEq, Int.reduceToNat, Int.reduceLE, Int.reduceLT, Int.reduceNeg, Nat.reduceMod, gT, TK.isInt, TK.agg, Array.toList]
      refine ⟨fun h1 => ⟨by omega, by omega, askK_of (c_spec_l1In _ _ _) ?_⟩, fun h1 => ?_⟩
      · simp (maxSteps := 5000000) -dsimp only [↓gp0, ↓gp1, ↓gp2, ↓gp3, ↓gp4, ↓gp5, ↓gp6, ↓gp7, ↓gp8, gq0, gq1, gq2, gq3, gq4, gq5, gq6, gq7, gq8, gq9, gq10, gq11, gq12, gq13, gq14, gq15, gq16, gq17, gq18, gq19, gq20, gq21, gq22, gq23, gq24, gq25, reduceCtorEq, Nat.reduceEqDiff, Nat.reduceLT, Nat.reduceLeDiff, Nat.reduceAdd, Nat.reduceMul, Nat.reduceSub, Nat.reduceBEq, Int.reduceToNat, Int.reduceLE, Int.reduceLT, Int.reduceNeg, Nat.reduceMod, gT, TK.isInt, TK.agg, Array.toList]
        simp only [h0, h1, Bool.true_and]
      · simp only [h0, h1, Bool.true_and, Bool.false_and]
    · simp only [h0, Bool.false_and]
  · simp [isPow]
    intro h1
    simp [h1] at h
def divL (xs ys : List Int) : Bool := (List.range xs.length).all fun i => decide (xs.getD i 0 ≤ ys.getD i 0)
theorem c_impl_divides (xs ys : List Int) (hle : xs.length ≤ ys.length) : AC Try.prog 82 [ints xs, ints ys] (.im (bool (divL xs ys))) := by
  refine AC.go (rs := [.tmp 4]) T_ok mixed Try.func82 rfl rfl rfl (by kernel_rfl) fun hl => ?_
  simp only [lens_cons, lens2_iL, lens_nil, and_true] at hl
  simp (maxSteps := 5000000) -dsimp only [↓gp0, ↓gp1, ↓gp2, ↓gp3, ↓gp4, ↓gp5, ↓gp6, ↓gp7, ↓gp8, gq0, gq1, gq2, gq3, gq4, gq5, gq6, gq7, gq8, gq9, gq10, gq11, gq12, gq13, gq14, gq15, gq16, gq17, gq18, gq19, gq20, gq21, gq22, gq23, gq24, gq25, reduceCtorEq, Nat.reduceEqDiff, Nat.reduceLT, Nat.reduceLeDiff, Nat.reduceAdd, Nat.reduceMul, Nat.reduceSub, Nat.reduceBEq, Int.reduceToNat, Int.reduceLE, Int.reduceLT, Int.reduceNeg, Nat.reduceMod, gT, TK.isInt, TK.agg, Array.toList]
  refine loop_of (fun (i : Nat) s => s.sl 0 = ints xs ∧ s.sl 1 = ints ys ∧ s.sl 7 = int xs.length ∧ s.sl 8 = int i ∧ i ≤ xs.length ∧ ∀ j, j < i → xs.getD j 0 ≤ ys.getD j 0) (fun i => xs.length - i) 0 ⟨by simp (maxSteps := 5000000) -dsimp only [gr0, gr1, gr2, gr3, Nat.reduceEqDiff, Nat.reduceLT], by simp (maxSteps := 5000000) -dsimp only [gr0, gr1, gr2, gr3, Nat.reduceEqDiff, Nat.reduceLT], by simp (maxSteps := 5000000) -dsimp only [gr0, gr1, gr2, gr3, Nat.reduceEqDiff, Nat.reduceLT], by simp (maxSteps := 5000000) -dsimp only [gr0, gr1, gr2, gr3, Nat.reduceEqDiff, Nat.reduceLT]; rfl, by simp, by simp⟩ ?_
  intro i s1 ⟨h0, h1, h7, h8, hi, hall⟩
  simp (maxSteps := 5000000) -dsimp only [↓gp0, ↓gp1, ↓gp2, ↓gp3, ↓gp4, ↓gp5, ↓gp6, ↓gp7, ↓gp8, gq0, gq1, gq2, gq3, gq4, gq5, gq6, gq7, gq8, gq9, gq10, gq11, gq12, gq13, gq14, gq15, gq16, gq17, gq18, gq19, gq20, gq21, gq22, gq23, gq24, gq25, reduceCtorEq, Nat.reduceEqDiff, Nat.reduceLT, Nat.reduceLeDiff, Nat.reduceAdd, Nat.reduceMul, Nat.reduceSub, Nat.reduceBEq, Int.reduceToNat, Int.reduceLE, Int.reduceLT, Int.reduceNeg, Nat.reduceMod, gT, TK.isInt, TK.agg, Array.toList, h0, h1, h7, h8]
  refine ⟨fun h => ⟨by kernel_rfl, h, h, by omega, by omega, fun ha => ?_, fun ha => ?_⟩, fun h => ?_⟩
  · simp only [divL, List.all_eq_false]
    exact ⟨i, by simpa using h, by simpa using ha⟩
  · refine again_of (i + 1) ⟨by simp (maxSteps := 5000000) -dsimp only [gr0, gr1, gr2, gr3, Nat.reduceEqDiff, Nat.reduceLT, h0], by simp (maxSteps := 5000000) -dsimp only [gr0, gr1, gr2, gr3, Nat.reduceEqDiff, Nat.reduceLT, h1], by simp (maxSteps := 5000000) -dsimp only [gr0, gr1, gr2, gr3, Nat.reduceEqDiff, Nat.reduceLT, h7], by simp (maxSteps := 5000000) -dsimp only [gr0, gr1, gr2, gr3, Nat.reduceEqDiff, Nat.reduceLT]; rw [wrap_nat h hl.1], h, fun j hj => ?_⟩ (by omega)
    rcases Nat.lt_succ_iff_lt_or_eq.1 hj with hj | rfl
    · exact hall j hj
    · omega
  · simp only [divL, List.all_eq_true, decide_eq_true_eq]
    exact fun j hj => hall j (by simp at hj; omega)
theorem c_laws_eqIntS (xs ys : List Int) : AC Try.prog 29 [ints xs, ints ys] (.im (bool (decide (xs = ys)))) := by
  refine AC.go (rs := [.tmp 4]) T_ok mixed Try.func29 rfl rfl rfl (by kernel_rfl) fun hl => ?_
  simp only [lens_cons, lens2_iL, lens_nil, and_true] at hl
  simp (maxSteps := 5000000) -dsimp only [↓gp0, ↓gp1, ↓gp2, ↓gp3, ↓gp4, ↓gp5, ↓gp6, ↓gp7, ↓gp8, gq0, gq1, gq2, gq3, gq4, gq5, gq6, gq7, gq8, gq9, gq10, gq11, gq12, gq13, gq14, gq15, gq16, gq17, gq18, gq19, gq20, gq21, gq22, gq23, gq24, gq25, reduceCtorEq, Nat.reduceEqDiff, Nat.reduceLT, Nat.reduceLeDiff, Nat.reduceAdd, Nat.reduceMul, Nat.reduceSub, Nat.reduceBEq, Int.reduceToNat, Int.reduceLE, Int.reduceLT, Int.reduceNeg, Nat.reduceMod, gT, TK.isInt, TK.agg, Array.toList]
  refine ⟨fun h => ?_, fun h => ?_⟩
  · intro e
    simp [e] at h
  · have hn : xs.length = ys.length := by simp at h; omega
    refine loop_of (fun (i : Nat) s => s.sl 0 = ints xs ∧ s.sl 1 = ints ys ∧ s.sl 5 = int i ∧ i ≤ xs.length ∧ xs.take i = ys.take i) (fun i => xs.length - i) 0 ⟨by simp (maxSteps := 5000000) -dsimp only [gr0, gr1, gr2, gr3, Nat.reduceEqDiff, Nat.reduceLT], by simp (maxSteps := 5000000) -dsimp only [gr0, gr1, gr2, gr3, Nat.reduceEqDiff, Nat.reduceLT], by simp (maxSteps := 5000000) -dsimp only [gr0, gr1, gr2, gr3, Nat.reduceEqDiff, Nat.reduceLT]; rfl, by simp, by simp⟩ ?_
    intro i s1 ⟨h0, h1, h5, hi, hall⟩
    simp (maxSteps := 5000000) -dsimp only [↓gp0, ↓gp1, ↓gp2, ↓gp3, ↓gp4, ↓gp5, ↓gp6, ↓gp7, ↓gp8, gq0, gq1, gq2, gq3, gq4, gq5, gq6, gq7, gq8, gq9, gq10, gq11, gq12, gq13, gq14, gq15, gq16, gq17, gq18, gq19, gq20, gq21, gq22, gq23, gq24, gq25, reduceCtorEq, Nat.reduceEqDiff, Nat.reduceLT, Nat.reduceLeDiff, Nat.reduceAdd, Nat.reduceMul, Nat.reduceSub, Nat.reduceBEq, Int.reduceToNat, Int.reduceLE, Int.reduceLT, Int.reduceNeg, Nat.reduceMod, gT, TK.isInt, TK.agg, Array.toList, h0, h1, h5]
    refine ⟨fun h => ⟨by kernel_rfl, h, h, by omega, by omega, fun ha => ?_, fun ha => ?_⟩, fun h => ?_⟩
    · intro e
      simp [e] at ha
    · refine again_of (i + 1) ⟨by simp (maxSteps := 5000000) -dsimp only [gr0, gr1, gr2, gr3, Nat.reduceEqDiff, Nat.reduceLT, h0], by simp (maxSteps := 5000000) -dsimp only [gr0, gr1, gr2, gr3, Nat.reduceEqDiff, Nat.reduceLT, h1], by simp (maxSteps := 5000000) -dsimp only [gr0, gr1, gr2, gr3, Nat.reduceEqDiff, Nat.reduceLT]; rw [wrap_nat h hl.1], h, ?_⟩ (by omega)
      rw [take_snoc 0 h, take_snoc 0 (show i < ys.length by omega), hall]
      simp at ha
      simpa using ha
    · rw [List.take_of_length_le (by omega), List.take_of_length_le (by omega)] at hall
      exact hall
theorem c_laws_toIntS (xs : List Int) (hx : xs.length ≤ 1048576) : AC Try.prog 27 [ints xs] (.fr 3 1 (iL xs)) := by
  refine AC.go (rs := [.tmp 2]) T_ok mixed Try.func27 rfl rfl rfl (by kernel_rfl) fun hl => ?_
  simp (maxSteps := 5000000) -dsimp only [↓gp0, ↓gp1, ↓gp2, ↓gp3, ↓gp4, ↓gp5, ↓gp6, ↓gp7, ↓gp8, gq0, gq1, gq2, gq3, gq4, gq5, gq6, gq7, gq8, gq9, gq10, gq11, gq12, gq13, gq14, gq15, gq16, gq17, gq18, gq19, gq20, gq21, gq22, gq23, gq24, gq25, reduceCtorEq, Nat.reduceEqDiff, Nat.reduceLT, Nat.reduceLeDiff, Nat.reduceAdd, Nat.reduceMul, Nat.reduceSub, Nat.reduceBEq, Int.reduceToNat, Int.reduceLE, Int.reduceLT, Int.reduceNeg, Nat.reduceMod, gT, TK.isInt, TK.agg, Array.toList]
  refine ⟨by omega, by omega, ?_⟩
  refine loop_of (fun (i : Nat) s => ∃ v, s.sl 0 = ints xs ∧ s.sl 3 = .own 7 v ∧ s.rw 7 = ⟨v, .sli 3 1 false (iL (xs.take i ++ List.replicate (xs.length - i) 0))⟩ ∧ s.sl 4 = int i ∧ i ≤ xs.length) (fun i => xs.length - i) 0 ⟨1, by simp (maxSteps := 5000000) -dsimp only [gr0, gr1, gr2, gr3, Nat.reduceEqDiff, Nat.reduceLT], by simp (maxSteps := 5000000) -dsimp only [gr0, gr1, gr2, gr3, Nat.reduceEqDiff, Nat.reduceLT], by simp (maxSteps := 5000000) -dsimp only [gr0, gr1, gr2, gr3, Nat.reduceEqDiff, Nat.reduceLT]; simp, by simp (maxSteps := 5000000) -dsimp only [gr0, gr1, gr2, gr3, Nat.reduceEqDiff, Nat.reduceLT]; rfl, by simp⟩ ?_
  intro i s1 ⟨v, h0, h3, h7, h4, hi⟩
  simp (maxSteps := 5000000) -dsimp only [↓gp0, ↓gp1, ↓gp2, ↓gp3, ↓gp4, ↓gp5, ↓gp6, ↓gp7, ↓gp8, gq0, gq1, gq2, gq3, gq4, gq5, gq6, gq7, gq8, gq9, gq10, gq11, gq12, gq13, gq14, gq15, gq16, gq17, gq18, gq19, gq20, gq21, gq22, gq23, gq24, gq25, reduceCtorEq, Nat.reduceEqDiff, Nat.reduceLT, Nat.reduceLeDiff, Nat.reduceAdd, Nat.reduceMul, Nat.reduceSub, Nat.reduceBEq, Int.reduceToNat, Int.reduceLE, Int.reduceLT, Int.reduceNeg, Nat.reduceMod, gT, TK.isInt, TK.agg, Array.toList, h0, h3, h7, h4]
  have hf := fill_length (xs := xs) (z := (0 : Int)) hi
  refine ⟨fun h => ⟨h, h, by omega, by omega, ?_⟩, fun h => ?_⟩
  · refine again_of (i + 1) ⟨v, by simp (maxSteps := 5000000) -dsimp only [gr0, gr1, gr2, gr3, Nat.reduceEqDiff, Nat.reduceLT, h0], by simp (maxSteps := 5000000) -dsimp only [gr0, gr1, gr2, gr3, Nat.reduceEqDiff, Nat.reduceLT, h3], by simp (maxSteps := 5000000) -dsimp only [gr0, gr1, gr2, gr3, Nat.reduceEqDiff, Nat.reduceLT]; rw [set_fill 0 0 h], by simp (maxSteps := 5000000) -dsimp only [gr0, gr1, gr2, gr3, Nat.reduceEqDiff, Nat.reduceLT]; rw [wrap_nat h (by omega)], h⟩ (by omega)
  · rw [List.take_of_length_le (by omega), show xs.length - i = 0 by omega]; simp
theorem c_laws_szIntS (xs : List Int) (n : Int) (h0 : 0 ≤ n) (h1 : n ≤ 1048576) : AC Try.prog 64 [ints xs, int n] (.im (int (if n - xs.length < 0 then -1 else n - xs.length))) := by
  refine AC.go (rs := [.tmp 4]) T_ok mixed Try.func64 rfl rfl rfl (by kernel_rfl) fun hl => ?_
  simp only [lens_cons, lens2_iL, lens_nil, and_true] at hl
  have hw : IntKind.i64.wrap (n - xs.length) = n - xs.length := wrap_id (by omega) (by have := hl.1; omega)
  simp (maxSteps := 5000000) -dsimp only [↓gp0, ↓gp1, ↓gp2, ↓gp3, ↓gp4, ↓gp5, ↓gp6, ↓gp7, ↓gp8, gq0, gq1, gq2, gq3, gq4, gq5, gq6, gq7, gq8, gq9, gq10, gq11, gq12, gq13, gq14, gq15, gq16, gq17, gq18, gq19, gq20, gq21, gq22, gq23, gq24, gq25, reduceCtorEq, Nat.reduceEqDiff, Nat.reduceLT, Nat.reduceLeDiff, Nat.reduceAdd, Nat.reduceMul, Nat.reduceSub, Nat.reduceBEq, Int.reduceToNat, Int.reduceLE, Int.reduceLT, Int.reduceNeg, Nat.reduceMod, gT, TK.isInt, TK.agg, Array.toList, hw]
  exact ⟨fun h => by simp [h], fun h => by simp [h]⟩
theorem c_laws_toIntSS (xss : List (List Int)) (hx : xss.length ≤ 1048576) (hr : ∀ r ∈ xss, r.length ≤ 1048576) : AC Try.prog 50 [int2 xss] (.fr 22 1 (iLL xss)) := by
  refine AC.go (rs := [.tmp 2]) T_ok mixed Try.func50 rfl rfl rfl (by kernel_rfl) fun hl => ?_
  simp (maxSteps := 5000000) -dsimp only [↓gp0, ↓gp1, ↓gp2, ↓gp3, ↓gp4, ↓gp5, ↓gp6, ↓gp7, ↓gp8, gq0, gq1, gq2, gq3, gq4, gq5, gq6, gq7, gq8, gq9, gq10, gq11, gq12, gq13, gq14, gq15, gq16, gq17, gq18, gq19, gq20, gq21, gq22, gq23, gq24, gq25, reduceCtorEq, Nat.reduceEqDiff, Nat.reduceLT, Nat.reduceLeDiff, Nat.reduceAdd, Nat.reduceMul, Nat.reduceSub, Nat.reduceBEq, Int.reduceToNat, Int.reduceLE, Int.reduceLT, Int.reduceNeg, Nat.reduceMod, gT, TK.isInt, TK.agg, Array.toList]
  refine ⟨by omega, by omega, ?_⟩
  refine loop_of (fun (i : Nat) s => ∃ v, s.sl 0 = int2 xss ∧ s.sl 3 = .own 7 v ∧ s.rw 7 = ⟨v, .sli 22 1 false (fillLL xss i)⟩ ∧ s.sl 4 = int i ∧ i ≤ xss.length) (fun i => xss.length - i) 0 ⟨1, by simp (maxSteps := 5000000) -dsimp only [gr0, gr1, gr2, gr3, Nat.reduceEqDiff, Nat.reduceLT], by simp (maxSteps := 5000000) -dsimp only [gr0, gr1, gr2, gr3, Nat.reduceEqDiff, Nat.reduceLT], by simp (maxSteps := 5000000) -dsimp only [gr0, gr1, gr2, gr3, Nat.reduceEqDiff, Nat.reduceLT]; rw [← fillLL_zero], by simp (maxSteps := 5000000) -dsimp only [gr0, gr1, gr2, gr3, Nat.reduceEqDiff, Nat.reduceLT]; rfl, by simp⟩ ?_
  intro i s1 ⟨v, h0, h3, h7, h4, hi⟩
  simp (maxSteps := 5000000) -dsimp only [↓gp0, ↓gp1, ↓gp2, ↓gp3, ↓gp4, ↓gp5, ↓gp6, ↓gp7, ↓gp8, gq0, gq1, gq2, gq3, gq4, gq5, gq6, gq7, gq8, gq9, gq10, gq11, gq12, gq13, gq14, gq15, gq16, gq17, gq18, gq19, gq20, gq21, gq22, gq23, gq24, gq25, reduceCtorEq, Nat.reduceEqDiff, Nat.reduceLT, Nat.reduceLeDiff, Nat.reduceAdd, Nat.reduceMul, Nat.reduceSub, Nat.reduceBEq, Int.reduceToNat, Int.reduceLE, Int.reduceLT, Int.reduceNeg, Nat.reduceMod, gT, TK.isInt, TK.agg, Array.toList, h0, h3, h7, h4]
  have hf := fillLL_length hi
  refine ⟨fun h => ⟨h, h, askK_of (c_laws_toIntS _ (hr _ (getD_mem [] h))) ?_⟩, fun h => ?_⟩
  · simp (maxSteps := 5000000) -dsimp only [↓gp0, ↓gp1, ↓gp2, ↓gp3, ↓gp4, ↓gp5, ↓gp6, ↓gp7, ↓gp8, gq0, gq1, gq2, gq3, gq4, gq5, gq6, gq7, gq8, gq9, gq10, gq11, gq12, gq13, gq14, gq15, gq16, gq17, gq18, gq19, gq20, gq21, gq22, gq23, gq24, gq25, reduceCtorEq, Nat.reduceEqDiff, Nat.reduceLT, Nat.reduceLeDiff, Nat.reduceAdd, Nat.reduceMul, Nat.reduceSub, Nat.reduceBEq, Int.reduceToNat, Int.reduceLE, Int.reduceLT, Int.reduceNeg, Nat.reduceMod, gT, TK.isInt, TK.agg, Array.toList, h0, h3, h7, h4]
    refine ⟨by omega, by omega, ?_⟩
    refine again_of (i + 1) ⟨v, by simp (maxSteps := 5000000) -dsimp only [gr0, gr1, gr2, gr3, Nat.reduceEqDiff, Nat.reduceLT, h0], by simp (maxSteps := 5000000) -dsimp only [gr0, gr1, gr2, gr3, Nat.reduceEqDiff, Nat.reduceLT, h3], by simp (maxSteps := 5000000) -dsimp only [gr0, gr1, gr2, gr3, Nat.reduceEqDiff, Nat.reduceLT]; rw [fillLL_spl h], by simp (maxSteps := 5000000) -dsimp only [gr0, gr1, gr2, gr3, Nat.reduceEqDiff, Nat.reduceLT]; rw [wrap_nat h (by omega)], h⟩ (by omega)
  · exact fillLL_end (by omega)
theorem c_laws_toPowers (xss : List (List Int)) (hc : AC Try.prog 50 [int2 xss] (.fr 22 1 (iLL xss))) : AC Try.prog 34 [.ag [int2 xss]] (.ag [.fr 22 1 (iLL xss)]) := by
  refine AC.go (rs := [.cell 2 50]) T_ok mixed Try.func34 rfl rfl rfl (by kernel_rfl) fun _ => ?_
  simp (maxSteps := 5000000) -dsimp only [↓gp0, ↓gp1, ↓gp2, ↓gp3, ↓gp4, ↓gp5, ↓gp6, ↓gp7, ↓gp8, gq0, gq1, gq2, gq3, gq4, gq5, gq6, gq7, gq8, gq9, gq10, gq11, gq12, gq13, gq14, gq15, gq16, gq17, gq18, gq19, gq20, gq21, gq22, gq23, gq24, gq25, reduceCtorEq, Nat.reduceEqDiff, Nat.reduceLT, Nat.reduceLeDiff, Nat.reduceAdd, Nat.reduceMul, Nat.reduceSub, Nat.reduceBEq, Int.reduceToNat, Int.reduceLE, Int.reduceLT, Int.reduceNeg, Nat.reduceMod, gT, TK.isInt, TK.agg, Array.toList]
  refine askK_of hc ?_
  simp (maxSteps := 5000000) -dsimp only [↓gp0, ↓gp1, ↓gp2, ↓gp3, ↓gp4, ↓gp5, ↓gp6, ↓gp7, ↓gp8, gq0, gq1, gq2, gq3, gq4, gq5, gq6, gq7, gq8, gq9, gq10, gq11, gq12, gq13, gq14, gq15, gq16, gq17, gq18, gq19, gq20, gq21, gq22, gq23, gq24, gq25, reduceCtorEq, Nat.reduceEqDiff, Nat.reduceLT, Nat.reduceLeDiff, Nat.reduceAdd, Nat.reduceMul, Nat.reduceSub, Nat.reduceBEq, Int.reduceToNat, Int.reduceLE, Int.reduceLT, Int.reduceNeg, Nat.reduceMod, gT, TK.isInt, TK.agg, Array.toList]

theorem c_laws_eqIntSS (xs ys : List (List Int)) : AC Try.prog 52 [int2 xs, int2 ys] (.im (bool (decide (xs = ys)))) := by
  refine AC.go (rs := [.tmp 4]) T_ok mixed Try.func52 rfl rfl rfl (by kernel_rfl) fun hl => ?_
  simp only [lens_cons, lens2_iLL, lens_nil, and_true] at hl
  simp (maxSteps := 5000000) -dsimp only [↓gp0, ↓gp1, ↓gp2, ↓gp3, ↓gp4, ↓gp5, ↓gp6, ↓gp7, ↓gp8, gq0, gq1, gq2, gq3, gq4, gq5, gq6, gq7, gq8, gq9, gq10, gq11, gq12, gq13, gq14, gq15, gq16, gq17, gq18, gq19, gq20, gq21, gq22, gq23, gq24, gq25, reduceCtorEq, Nat.reduceEqDiff, Nat.reduceLT, Nat.reduceLeDiff, Nat.reduceAdd, Nat.reduceMul, Nat.reduceSub, Nat.reduceBEq, Int.reduceToNat, Int.reduceLE, Int.reduceLT, Int.reduceNeg, Nat.reduceMod, gT, TK.isInt, TK.agg, Array.toList]
  refine ⟨fun h => ?_, fun h => ?_⟩
  · intro e
    simp [e] at h
  · have hn : xs.length = ys.length := by simp at h; omega
    refine loop_of (fun (i : Nat) s => s.sl 0 = int2 xs ∧ s.sl 1 = int2 ys ∧ s.sl 5 = int i ∧ i ≤ xs.length ∧ xs.take i = ys.take i) (fun i => xs.length - i) 0 ⟨by simp (maxSteps := 5000000) -dsimp only [gr0, gr1, gr2, gr3, Nat.reduceEqDiff, Nat.reduceLT], by simp (maxSteps := 5000000) -dsimp only [gr0, gr1, gr2, gr3, Nat.reduceEqDiff, Nat.reduceLT], by simp (maxSteps := 5000000) -dsimp only [gr0, gr1, gr2, gr3, Nat.reduceEqDiff, Nat.reduceLT]; rfl, by simp, by simp⟩ ?_
    intro i s1 ⟨h0, h1, h5, hi, hall⟩
    simp (maxSteps := 5000000) -dsimp only [↓gp0, ↓gp1, ↓gp2, ↓gp3, ↓gp4, ↓gp5, ↓gp6, ↓gp7, ↓gp8, gq0, gq1, gq2, gq3, gq4, gq5, gq6, gq7, gq8, gq9, gq10, gq11, gq12, gq13, gq14, gq15, gq16, gq17, gq18, gq19, gq20, gq21, gq22, gq23, gq24, gq25, reduceCtorEq, Nat.reduceEqDiff, Nat.reduceLT, Nat.reduceLeDiff, Nat.reduceAdd, Nat.reduceMul, Nat.reduceSub, Nat.reduceBEq, Int.reduceToNat, Int.reduceLE, Int.reduceLT, Int.reduceNeg, Nat.reduceMod, gT, TK.isInt, TK.agg, Array.toList, h0, h1, h5]
    refine ⟨fun h => ⟨by kernel_rfl, h, h, by omega, by omega, askK_of (c_laws_eqIntS _ _) ?_⟩, fun h => ?_⟩
    · simp (maxSteps := 5000000) -dsimp only [↓gp0, ↓gp1, ↓gp2, ↓gp3, ↓gp4, ↓gp5, ↓gp6, ↓gp7, ↓gp8, gq0, gq1, gq2, gq3, gq4, gq5, gq6, gq7, gq8, gq9, gq10, gq11, gq12, gq13, gq14, gq15, gq16, gq17, gq18, gq19, gq20, gq21, gq22, gq23, gq24, gq25, reduceCtorEq, Nat.reduceEqDiff, Nat.reduceLT, Nat.reduceLeDiff, Nat.reduceAdd, Nat.reduceMul, Nat.reduceSub, Nat.reduceBEq, Int.reduceToNat, Int.reduceLE, Int.reduceLT, Int.reduceNeg, Nat.reduceMod, gT, TK.isInt, TK.agg, Array.toList, h0, h1, h5]
      refine ⟨fun ha => ?_, fun ha => ?_⟩
      · intro e
        simp [e] at ha
      · refine again_of (i + 1) ⟨by simp (maxSteps := 5000000) -dsimp only [gr0, gr1, gr2, gr3, Nat.reduceEqDiff, Nat.reduceLT, h0], by simp (maxSteps := 5000000) -dsimp only [gr0, gr1, gr2, gr3, Nat.reduceEqDiff, Nat.reduceLT, h1], by simp (maxSteps := 5000000) -dsimp only [gr0, gr1, gr2, gr3, Nat.reduceEqDiff, Nat.reduceLT]; rw [wrap_nat h hl.1.1], h, ?_⟩ (by omega)
        rw [take_snoc [] h, take_snoc [] (show i < ys.length by omega), hall]
        simp at ha
        simpa using ha
    · rw [List.take_of_length_le (by omega), List.take_of_length_le (by omega)] at hall
      exact hall
theorem c_laws_eqPowers (xs ys : List (List Int)) : AC Try.prog 36 [.ag [int2 xs], .ag [int2 ys]] (.im (bool (decide (xs = ys)))) := by
  refine AC.go (rs := [.tmp 4]) T_ok mixed Try.func36 rfl rfl rfl (by kernel_rfl) fun hl => ?_
  simp (maxSteps := 5000000) -dsimp only [↓gp0, ↓gp1, ↓gp2, ↓gp3, ↓gp4, ↓gp5, ↓gp6, ↓gp7, ↓gp8, gq0, gq1, gq2, gq3, gq4, gq5, gq6, gq7, gq8, gq9, gq10, gq11, gq12, gq13, gq14, gq15, gq16, gq17, gq18, gq19, gq20, gq21, gq22, gq23, gq24, gq25, reduceCtorEq, Nat.reduceEqDiff, Nat.reduceLT, Nat.reduceLeDiff, Nat.reduceAdd, Nat.reduceMul, Nat.reduceSub, Nat.reduceBEq, Int.reduceToNat, Int.reduceLE, Int.reduceLT, Int.reduceNeg, Nat.reduceMod, gT, TK.isInt, TK.agg, Array.toList]
  refine askK_of (c_laws_eqIntSS _ _) ?_
  simp (maxSteps := 5000000) -dsimp only [↓gp0, ↓gp1, ↓gp2, ↓gp3, ↓gp4, ↓gp5, ↓gp6, ↓gp7, ↓gp8, gq0, gq1, gq2, gq3, gq4, gq5, gq6, gq7, gq8, gq9, gq10, gq11, gq12, gq13, gq14, gq15, gq16, gq17, gq18, gq19, gq20, gq21, gq22, gq23, gq24, gq25, reduceCtorEq, Nat.reduceEqDiff, Nat.reduceLT, Nat.reduceLeDiff, Nat.reduceAdd, Nat.reduceMul, Nat.reduceSub, Nat.reduceBEq, Int.reduceToNat, Int.reduceLE, Int.reduceLT, Int.reduceNeg, Nat.reduceMod, gT, TK.isInt, TK.agg, Array.toList]
  exact ⟨fun h => by simpa using h, fun h => by simpa using h⟩
def szI (n : Int) (k : Nat) : Int := if n - k < 0 then -1 else n - k
def szL : List (List Int) → Int → Int
  | [], n => n
  | r :: rs, n => if szI n r.length < 0 then -1 else szL rs (szI n r.length)
def szSS (xss : List (List Int)) (n : Int) : Int := if szI n xss.length < 0 then -1 else szL xss (szI n xss.length)
theorem c_laws_szIntSS (xss : List (List Int)) (n : Int) (h0 : 0 ≤ n) (h1 : n ≤ 1048576) : AC Try.prog 48 [int2 xss, int n] (.im (int (szSS xss n))) := by
  refine AC.go (rs := [.tmp 4]) T_ok mixed Try.func48 rfl rfl rfl (by kernel_rfl) fun hl => ?_
  simp only [lens_cons, lens2_iLL, lens_nil, and_true] at hl
  have hw : IntKind.i64.wrap (n - xss.length) = n - xss.length := wrap_id (by have := hl.1; omega) (by have := hl.1; omega)
  simp (maxSteps := 5000000) -dsimp only [↓gp0, ↓gp1, ↓gp2, ↓gp3, ↓gp4, ↓gp5, ↓gp6, ↓gp7, ↓gp8, gq0, gq1, gq2, gq3, gq4, gq5, gq6, gq7, gq8, gq9, gq10, gq11, gq12, gq13, gq14, gq15, gq16, gq17, gq18, gq19, gq20, gq21, gq22, gq23, gq24, gq25, reduceCtorEq, Nat.reduceEqDiff, Nat.reduceLT, Nat.reduceLeDiff, Nat.reduceAdd, Nat.reduceMul, Nat.reduceSub, Nat.reduceBEq, Int.reduceToNat, Int.reduceLE, Int.reduceLT, Int.reduceNeg, Nat.reduceMod, gT, TK.isInt, TK.agg, Array.toList, hw]
  refine ⟨fun h => by simp [szSS, szI, h], fun h => ?_⟩
  have hz : szSS xss n = szL xss (n - xss.length) := by simp only [szSS, szI, if_neg h]
  rw [hz]
  refine loop_of (fun (x : Nat × Int) s => s.sl 0 = int2 xss ∧ s.sl 1 = int x.2 ∧ s.sl 5 = int x.1 ∧ x.1 ≤ xss.length ∧ 0 ≤ x.2 ∧ x.2 ≤ 1048576 ∧ szL xss (n - xss.length) = szL (xss.drop x.1) x.2) (fun x => xss.length - x.1) (0, n - xss.length) ⟨by simp (maxSteps := 5000000) -dsimp only [gr0, gr1, gr2, gr3, Nat.reduceEqDiff, Nat.reduceLT], by simp (maxSteps := 5000000) -dsimp only [gr0, gr1, gr2, gr3, Nat.reduceEqDiff, Nat.reduceLT], by simp (maxSteps := 5000000) -dsimp only [gr0, gr1, gr2, gr3, Nat.reduceEqDiff, Nat.reduceLT]; rfl, by simp, by omega, by omega, by simp⟩ ?_
  intro ⟨i, l⟩ s1 ⟨h0, h1, h5, hi, hl0, hl1, hall⟩
  simp only at h0 h1 h5 hi hl0 hl1 hall
  rw [hall]
  simp (maxSteps := 5000000) -dsimp only [↓gp0, ↓gp1, ↓gp2, ↓gp3, ↓gp4, ↓gp5, ↓gp6, ↓gp7, ↓gp8, gq0, gq1, gq2, gq3, gq4, gq5, gq6, gq7, gq8, gq9, gq10, gq11, gq12, gq13, gq14, gq15, gq16, gq17, gq18, gq19, gq20, gq21, gq22, gq23, gq24, gq25, reduceCtorEq, Nat.reduceEqDiff, Nat.reduceLT, Nat.reduceLeDiff, Nat.reduceAdd, Nat.reduceMul, Nat.reduceSub, Nat.reduceBEq, Int.reduceToNat, Int.reduceLE, Int.reduceLT, Int.reduceNeg, Nat.reduceMod, gT, TK.isInt, TK.agg, Array.toList, h0, h1, h5]
  refine ⟨fun h => ⟨h, h, askK_of (c_laws_szIntS _ _ hl0 hl1) ?_⟩, fun h => ?_⟩
  · simp (maxSteps := 5000000) -dsimp only [↓gp0, ↓gp1, ↓gp2, ↓gp3, ↓gp4, ↓gp5, ↓gp6, ↓gp7, ↓gp8, gq0, gq1, gq2, gq3, gq4, gq5, gq6, gq7, gq8, gq9, gq10, gq11, gq12, gq13, gq14, gq15, gq16, gq17, gq18, gq19, gq20, gq21, gq22, gq23, gq24, gq25, reduceCtorEq, Nat.reduceEqDiff, Nat.reduceLT, Nat.reduceLeDiff, Nat.reduceAdd, Nat.reduceMul, Nat.reduceSub, Nat.reduceBEq, Int.reduceToNat, Int.reduceLE, Int.reduceLT, Int.reduceNeg, Nat.reduceMod, gT, TK.isInt, TK.agg, Array.toList, h0, h1, h5]
    have e : (if l - ↑(xss.getD i []).length < 0 then (-1 : Int) else l - ↑(xss.getD i []).length) = szI l (xss.getD i []).length := rfl
    simp only [e]
    rw [drop_step [] h]
    simp only [szL]
    refine ⟨fun h2 => by rw [if_pos h2], fun h2 => ?_⟩
    refine again_of (i + 1, szI l (xss.getD i []).length) ⟨by simp (maxSteps := 5000000) -dsimp only [gr0, gr1, gr2, gr3, Nat.reduceEqDiff, Nat.reduceLT, h0], by simp (maxSteps := 5000000) -dsimp only [gr0, gr1, gr2, gr3, Nat.reduceEqDiff, Nat.reduceLT], by simp (maxSteps := 5000000) -dsimp only [gr0, gr1, gr2, gr3, Nat.reduceEqDiff, Nat.reduceLT]; rw [wrap_nat h (by omega)], h, by omega, ?_, ?_⟩ (by simp; omega)
    · simp only [szI]; split <;> omega
    · rw [if_neg h2]
  · rw [List.drop_of_length_le (by omega)]; rfl
theorem szL_neg : ∀ (xs : List (List Int)) (n : Int), 0 ≤ n → szL xs n = -1 ∨ 0 ≤ szL xs n := by
  intro xs
  induction xs with
  | nil => intro n h; exact .inr h
  | cons r rs ih =>
    intro n h
    simp only [szL]
    split
    · exact .inl rfl
    · exact ih _ (by omega)
theorem c_laws_szPowers (xss : List (List Int)) (n : Int) (h0 : 0 ≤ n) (h1 : n ≤ 1048576) : AC Try.prog 32 [.ag [int2 xss], int n] (.im (int (szSS xss n))) := by
  refine AC.go (rs := [.tmp 4]) T_ok mixed Try.func32 rfl rfl rfl (by kernel_rfl) fun hl => ?_
  simp (maxSteps := 5000000) -dsimp only [↓gp0, ↓gp1, ↓gp2, ↓gp3, ↓gp4, ↓gp5, ↓gp6, ↓gp7, ↓gp8, gq0, gq1, gq2, gq3, gq4, gq5, gq6, gq7, gq8, gq9, gq10, gq11, gq12, gq13, gq14, gq15, gq16, gq17, gq18, gq19, gq20, gq21, gq22, gq23, gq24, gq25, reduceCtorEq, Nat.reduceEqDiff, Nat.reduceLT, Nat.reduceLeDiff, Nat.reduceAdd, Nat.reduceMul, Nat.reduceSub, Nat.reduceBEq, Int.reduceToNat, Int.reduceLE, Int.reduceLT, Int.reduceNeg, Nat.reduceMod, gT, TK.isInt, TK.agg, Array.toList]
  refine askK_of (c_laws_szIntSS xss n h0 h1) ?_
  simp (maxSteps := 5000000) -dsimp only [↓gp0, ↓gp1, ↓gp2, ↓gp3, ↓gp4, ↓gp5, ↓gp6, ↓gp7, ↓gp8, gq0, gq1, gq2, gq3, gq4, gq5, gq6, gq7, gq8, gq9, gq10, gq11, gq12, gq13, gq14, gq15, gq16, gq17, gq18, gq19, gq20, gq21, gq22, gq23, gq24, gq25, reduceCtorEq, Nat.reduceEqDiff, Nat.reduceLT, Nat.reduceLeDiff, Nat.reduceAdd, Nat.reduceMul, Nat.reduceSub, Nat.reduceBEq, Int.reduceToNat, Int.reduceLE, Int.reduceLT, Int.reduceNeg, Nat.reduceMod, gT, TK.isInt, TK.agg, Array.toList]
  intro h
  unfold szSS at h ⊢
  split
  · rfl
  · rename_i h2
    rw [if_neg h2] at h
    rcases szL_neg xss (szI n xss.length) (by omega) with h3 | h3 <;> omega
def lessL : List Int → List Int → Bool
  | [], _ => false
  | _ :: _, [] => false
  | a :: xs, b :: ys => if a = b then lessL xs ys else decide (a < b)
def cmpL : List Int → List Int → Int
  | [], [] => 0
  | [], _ :: _ => -1
  | _ :: _, [] => 1
  | a :: xs, b :: ys => if icmp a b = 0 then cmpL xs ys else icmp a b
theorem c_spec_l9Less (xs ys : List Int) : AC Try.prog 112 [ints xs, ints ys] (.im (bool (lessL xs ys))) := by
  refine AC.go (rs := [.tmp 4]) T_ok mixed Try.func112 rfl rfl rfl (by kernel_rfl) fun hl => ?_
  simp only [lens_cons, lens2_iL, lens_nil, and_true] at hl
  simp (maxSteps := 5000000) -dsimp only [↓gp0, ↓gp1, ↓gp2, ↓gp3, ↓gp4, ↓gp5, ↓gp6, ↓gp7, ↓gp8, gq0, gq1, gq2, gq3, gq4, gq5, gq6, gq7, gq8, gq9, gq10, gq11, gq12, gq13, gq14, gq15, gq16, gq17, gq18, gq19, gq20, gq21, gq22, gq23, gq24, gq25, reduceCtorEq, Nat.reduceEqDiff, Nat.reduceLT, Nat.reduceLeDiff, Nat.reduceAdd, Nat.reduceMul, Nat.reduceSub, Nat.reduceBEq, Int.reduceToNat, Int.reduceLE, Int.reduceLT, Int.reduceNeg, Nat.reduceMod, gT, TK.isInt, TK.agg, Array.toList]
  refine loop_of (fun (i : Nat) s => s.sl 0 = ints xs ∧ s.sl 1 = ints ys ∧ s.sl 5 = int i ∧ i ≤ xs.length ∧ lessL xs ys = lessL (xs.drop i) (ys.drop i)) (fun i => xs.length - i) 0 ⟨by simp (maxSteps := 5000000) -dsimp only [gr0, gr1, gr2, gr3, Nat.reduceEqDiff, Nat.reduceLT], by simp (maxSteps := 5000000) -dsimp only [gr0, gr1, gr2, gr3, Nat.reduceEqDiff, Nat.reduceLT], by simp (maxSteps := 5000000) -dsimp only [gr0, gr1, gr2, gr3, Nat.reduceEqDiff, Nat.reduceLT]; rfl, by simp, by simp⟩ ?_
  intro i s1 ⟨h0, h1, h5, hi, hall⟩
  rw [hall]
  simp (maxSteps := 5000000) -dsimp only [↓gp0, ↓gp1, ↓gp2, ↓gp3, ↓gp4, ↓gp5, ↓gp6, ↓gp7, ↓gp8, gq0, gq1, gq2, gq3, gq4, gq5, gq6, gq7, gq8, gq9, gq10, gq11, gq12, gq13, gq14, gq15, gq16, gq17, gq18, gq19, gq20, gq21, gq22, gq23, gq24, gq25, reduceCtorEq, Nat.reduceEqDiff, Nat.reduceLT, Nat.reduceLeDiff, Nat.reduceAdd, Nat.reduceMul, Nat.reduceSub, Nat.reduceBEq, Int.reduceToNat, Int.reduceLE, Int.reduceLT, Int.reduceNeg, Nat.reduceMod, gT, TK.isInt, TK.agg, Array.toList, h0, h1, h5]
  refine ⟨fun h => ⟨fun h' => ⟨by kernel_rfl, h, h, h', h', fun ha => ⟨by kernel_rfl, h, h, h', h', ?_⟩, fun ha => ?_⟩, fun h' => ?_⟩, fun h => ?_⟩
  · rw [drop_step 0 h, drop_step 0 h']; simp only [lessL]; rw [if_neg (by simpa using ha)]
  · refine again_of (i + 1) ⟨by simp (maxSteps := 5000000) -dsimp only [gr0, gr1, gr2, gr3, Nat.reduceEqDiff, Nat.reduceLT, h0], by simp (maxSteps := 5000000) -dsimp only [gr0, gr1, gr2, gr3, Nat.reduceEqDiff, Nat.reduceLT, h1], by simp (maxSteps := 5000000) -dsimp only [gr0, gr1, gr2, gr3, Nat.reduceEqDiff, Nat.reduceLT]; rw [wrap_nat h hl.1], h, ?_⟩ (by omega)
    rw [drop_step 0 h, drop_step 0 h']; simp only [lessL]; rw [if_pos (by simpa using ha)]
  · rw [List.drop_of_length_le (show ys.length ≤ i by omega)]
    cases xs.drop i <;> rfl
  · rw [List.drop_of_length_le (show xs.length ≤ i by omega)]; rfl
theorem c_slices_Compare (xs ys : List Int) : AC Try.prog 113 [ints xs, ints ys] (.im (int (cmpL xs ys))) := by
  refine AC.go (rs := [.tmp 4]) T_ok mixed Try.func113 rfl rfl rfl (by kernel_rfl) fun hl => ?_
  simp only [lens_cons, lens2_iL, lens_nil, and_true] at hl
  simp (maxSteps := 5000000) -dsimp only [↓gp0, ↓gp1, ↓gp2, ↓gp3, ↓gp4, ↓gp5, ↓gp6, ↓gp7, ↓gp8, gq0, gq1, gq2, gq3, gq4, gq5, gq6, gq7, gq8, gq9, gq10, gq11, gq12, gq13, gq14, gq15, gq16, gq17, gq18, gq19, gq20, gq21, gq22, gq23, gq24, gq25, reduceCtorEq, Nat.reduceEqDiff, Nat.reduceLT, Nat.reduceLeDiff, Nat.reduceAdd, Nat.reduceMul, Nat.reduceSub, Nat.reduceBEq, Int.reduceToNat, Int.reduceLE, Int.reduceLT, Int.reduceNeg, Nat.reduceMod, gT, TK.isInt, TK.agg, Array.toList]
  refine loop_of (fun (i : Nat) s => s.sl 0 = ints xs ∧ s.sl 1 = ints ys ∧ s.sl 9 = ints xs ∧ s.sl 10 = int xs.length ∧ s.sl 11 = int i ∧ i ≤ xs.length ∧ i ≤ ys.length ∧ cmpL xs ys = cmpL (xs.drop i) (ys.drop i)) (fun i => xs.length - i) 0 ⟨by simp (maxSteps := 5000000) -dsimp only [gr0, gr1, gr2, gr3, Nat.reduceEqDiff, Nat.reduceLT], by simp (maxSteps := 5000000) -dsimp only [gr0, gr1, gr2, gr3, Nat.reduceEqDiff, Nat.reduceLT], by simp (maxSteps := 5000000) -dsimp only [gr0, gr1, gr2, gr3, Nat.reduceEqDiff, Nat.reduceLT], by simp (maxSteps := 5000000) -dsimp only [gr0, gr1, gr2, gr3, Nat.reduceEqDiff, Nat.reduceLT], by simp (maxSteps := 5000000) -dsimp only [gr0, gr1, gr2, gr3, Nat.reduceEqDiff, Nat.reduceLT]; rfl, by simp, by simp, by simp⟩ ?_
  intro i s1 ⟨h0, h1, h9, h10, h11, hi, hi2, hall⟩
  rw [hall]
  simp (maxSteps := 5000000) -dsimp only [↓gp0, ↓gp1, ↓gp2, ↓gp3, ↓gp4, ↓gp5, ↓gp6, ↓gp7, ↓gp8, gq0, gq1, gq2, gq3, gq4, gq5, gq6, gq7, gq8, gq9, gq10, gq11, gq12, gq13, gq14, gq15, gq16, gq17, gq18, gq19, gq20, gq21, gq22, gq23, gq24, gq25, reduceCtorEq, Nat.reduceEqDiff, Nat.reduceLT, Nat.reduceLeDiff, Nat.reduceAdd, Nat.reduceMul, Nat.reduceSub, Nat.reduceBEq, Int.reduceToNat, Int.reduceLE, Int.reduceLT, Int.reduceNeg, Nat.reduceMod, gT, TK.isInt, TK.agg, Array.toList, h0, h1, h9, h10, h11]
  refine ⟨fun h => ⟨h, h, fun h' => ?_, fun h' => ⟨by omega, by omega, askK_of (c_cmp_Compare _ _) ?_⟩⟩, fun h => ⟨fun h' => ?_, fun h' => ?_⟩⟩
  · rw [drop_step 0 h, List.drop_of_length_le h']; rfl
  · simp (maxSteps := 5000000) -dsimp only [↓gp0, ↓gp1, ↓gp2, ↓gp3, ↓gp4, ↓gp5, ↓gp6, ↓gp7, ↓gp8, gq0, gq1, gq2, gq3, gq4, gq5, gq6, gq7, gq8, gq9, gq10, gq11, gq12, gq13, gq14, gq15, gq16, gq17, gq18, gq19, gq20, gq21, gq22, gq23, gq24, gq25, reduceCtorEq, Nat.reduceEqDiff, Nat.reduceLT, Nat.reduceLeDiff, Nat.reduceAdd, Nat.reduceMul, Nat.reduceSub, Nat.reduceBEq, Int.reduceToNat, Int.reduceLE, Int.reduceLT, Int.reduceNeg, Nat.reduceMod, gT, TK.isInt, TK.agg, Array.toList, h0, h1, h9, h10, h11]
    refine ⟨fun ha => ?_, fun ha => ?_⟩
    · rw [drop_step 0 h, drop_step 0 (show i < ys.length by omega)]; simp only [cmpL]; rw [if_neg (by simpa using ha)]
    · refine again_of (i + 1) ⟨by simp (maxSteps := 5000000) -dsimp only [gr0, gr1, gr2, gr3, Nat.reduceEqDiff, Nat.reduceLT, h0], by simp (maxSteps := 5000000) -dsimp only [gr0, gr1, gr2, gr3, Nat.reduceEqDiff, Nat.reduceLT, h1], by simp (maxSteps := 5000000) -dsimp only [gr0, gr1, gr2, gr3, Nat.reduceEqDiff, Nat.reduceLT, h9], by simp (maxSteps := 5000000) -dsimp only [gr0, gr1, gr2, gr3, Nat.reduceEqDiff, Nat.reduceLT, h10], by simp (maxSteps := 5000000) -dsimp only [gr0, gr1, gr2, gr3, Nat.reduceEqDiff, Nat.reduceLT]; rw [wrap_nat h hl.1], h, by omega, ?_⟩ (by omega)
      rw [drop_step 0 h, drop_step 0 (show i < ys.length by omega)]; simp only [cmpL]; rw [if_pos (by simpa using ha)]
  · rw [List.drop_of_length_le (show xs.length ≤ i by omega), drop_step 0 (show i < ys.length by omega)]; rfl
  · rw [List.drop_of_length_le (show xs.length ≤ i by omega), List.drop_of_length_le (show ys.length ≤ i by omega)]; rfl
theorem c_impl_isPowerList (xs : List Int) : AC Try.prog 93 [ints xs] (.im (bool (isPow xs))) := by
  refine AC.go (rs := [.tmp 2]) T_ok mixed Try.func93 rfl rfl rfl (by kernel_rfl) fun hl => ?_
  simp only [lens_cons, lens2_iL, lens_nil, and_true] at hl
  simp (maxSteps := 5000000) -dsimp only [↓gp0, ↓gp1, ↓gp2, ↓gp3, ↓gp4, ↓gp5, ↓gp6, ↓gp7, ↓gp8, gq0, gq1, gq2, gq3, gq4, gq5, gq6, gq7, gq8, gq9, gq10, gq11, gq12, gq13, gq14, gq15, gq16, gq17, gq18, gq19, gq20, gq21, gq22, gq23, gq24, gq25, reduceCtorEq, Nat.reduceEqDiff, Nat.reduceLT, Nat.reduceLeDiff, Nat.reduceAdd, Nat.reduceMul, Nat.reduceSub, Nat.reduceBEq, Int.reduceToNat, Int.reduceLE, Int.reduceLT, Int.reduceNeg, Nat.reduceMod, gT, TK.isInt, TK.agg, Array.toList]
  refine ⟨fun h => ?_, fun h3 => ?_⟩
  · simp [isPow]
    intro h1
    simp [h1] at h
  refine loop_of (fun (i : Nat) s => s.sl 8 = ints xs ∧ s.sl 9 = int xs.length ∧ s.sl 10 = int i ∧ i ≤ xs.length ∧ ∀ n ∈ xs.take i, 0 ≤ n ∧ n ≤ 2) (fun i => xs.length - i) 0 ⟨by simp (maxSteps := 5000000) -dsimp only [gr0, gr1, gr2, gr3, Nat.reduceEqDiff, Nat.reduceLT], by simp (maxSteps := 5000000) -dsimp only [gr0, gr1, gr2, gr3, Nat.reduceEqDiff, Nat.reduceLT], by simp (maxSteps := 5000000) -dsimp only [gr0, gr1, gr2, gr3, Nat.reduceEqDiff, Nat.reduceLT]; rfl, by simp, by simp⟩ ?_
  intro i s1 ⟨h8, h9, h10, hi, hall⟩
  simp (maxSteps := 5000000) -dsimp only [↓gp0, ↓gp1, ↓gp2, ↓gp3, ↓gp4, ↓gp5, ↓gp6, ↓gp7, ↓gp8, gq0, gq1, gq2, gq3, gq4, gq5, gq6, gq7, gq8, gq9, gq10, gq11, gq12, gq13, gq14, gq15, gq16, gq17, gq18, gq19, gq20, gq21, gq22, gq23, gq24, gq25, reduceCtorEq, Nat.reduceEqDiff, Nat.reduceLT, Nat.reduceLeDiff, Nat.reduceAdd, Nat.reduceMul, Nat.reduceSub, Nat.reduceBEq, Int.reduceToNat, Int.reduceLE, Int.reduceLT, Int.reduceNeg, Nat.reduceMod, gT, TK.isInt, TK.agg, Array.toList, h8, h9, h10]
  refine ⟨fun h => ⟨h, h, fun ha => ⟨fun hb => ?_, fun hb => ?_⟩, fun ha => ?_⟩, fun h => ?_⟩
  · have := getD_mem 0 h
    simp only [isPow, Bool.and_eq_false_iff, List.all_eq_false]
    exact .inr ⟨_, this, by simp only [Bool.and_eq_true, decide_eq_true_eq]; omega⟩
  · refine again_of (i + 1) ⟨by simp (maxSteps := 5000000) -dsimp only [gr0, gr1, gr2, gr3, Nat.reduceEqDiff, Nat.reduceLT, h8], by simp (maxSteps := 5000000) -dsimp only [gr0, gr1, gr2, gr3, Nat.reduceEqDiff, Nat.reduceLT, h9], by simp (maxSteps := 5000000) -dsimp only [gr0, gr1, gr2, gr3, Nat.reduceEqDiff, Nat.reduceLT]; rw [wrap_nat h hl], h, ?_⟩ (by omega)
    rw [take_snoc 0 h]
    intro n hn
    rcases List.mem_append.1 hn with hn | hn
    · exact hall n hn
    · obtain rfl := List.mem_singleton.1 hn
      omega
  · have := getD_mem 0 h
    simp only [isPow, Bool.and_eq_false_iff, List.all_eq_false]
    exact .inr ⟨_, this, by simp only [Bool.and_eq_true, decide_eq_true_eq]; omega⟩
  · rw [List.take_of_length_le (by omega)] at hall
    simp only [isPow, Bool.and_eq_true, List.all_eq_true, decide_eq_true_eq]
    refine ⟨?_, hall⟩
    simp at h3 ⊢
    omega
end Go.Proofs.Ytfjjopfeipggiaa
