/- DERIVED by an AI agent. -/
import Derived.Test.YtpnknaaehcljoaaB1
import Derived.Test.YtpnknaaehcljoaaP1
import Derived.Test.YtpnknaaehcljoaaA17
namespace Go.Proofs.Ytpnknaaehcljoaa
open Go.Abs
set_option linter.unusedSimpArgs false
set_option linter.unusedVariables false

def icmp (a b : Int) : Int := if a < b then -1 else if b < a then 1 else 0
theorem c_cmp_isNaN (a : Int) : AC Try.prog 187 [int a] (.im (bool false)) := by
  refine AC.go (rs := [.tmp 2]) T_ok mixed Try.func187 rfl rfl rfl (by kernel_rfl) fun _ => ?_
  simp (maxSteps := 5000000) -dsimp only [↓gp, gq, reduceCtorEq, Nat.reduceEqDiff, Nat.reduceLT, Nat.reduceLeDiff, Nat.reduceAdd, Nat.reduceMul, Nat.reduceSub, Nat.reduceBEq, Int.reduceToNat, Int.reduceLE, Int.reduceLT, Int.reduceNeg, Nat.reduceMod, sid_ne1, sid_ne2, sid_inj, sid_mod, gT, TK.isInt, TK.agg, Array.toList]
  simp
theorem c_cmp_Compare (a b : Int) : AC Try.prog 149 [int a, int b] (.im (int (icmp a b))) := by
  refine AC.go (rs := [.tmp 4]) T_ok mixed Try.func149 rfl rfl rfl (by kernel_rfl) fun _ => ?_
  simp (maxSteps := 5000000) -dsimp only [↓gp, gq, reduceCtorEq, Nat.reduceEqDiff, Nat.reduceLT, Nat.reduceLeDiff, Nat.reduceAdd, Nat.reduceMul, Nat.reduceSub, Nat.reduceBEq, Int.reduceToNat, Int.reduceLE, Int.reduceLT, Int.reduceNeg, Nat.reduceMod, sid_ne1, sid_ne2, sid_inj, sid_mod, gT, TK.isInt, TK.agg, Array.toList]
  refine askK_of (c_cmp_isNaN a) ?_
  simp (maxSteps := 5000000) -dsimp only [↓gp, gq, reduceCtorEq, Nat.reduceEqDiff, Nat.reduceLT, Nat.reduceLeDiff, Nat.reduceAdd, Nat.reduceMul, Nat.reduceSub, Nat.reduceBEq, Int.reduceToNat, Int.reduceLE, Int.reduceLT, Int.reduceNeg, Nat.reduceMod, sid_ne1, sid_ne2, sid_inj, sid_mod, gT, TK.isInt, TK.agg, Array.toList]
  refine askK_of (c_cmp_isNaN b) ?_
  simp (maxSteps := 5000000) -dsimp only [↓gp, gq, reduceCtorEq, Nat.reduceEqDiff, Nat.reduceLT, Nat.reduceLeDiff, Nat.reduceAdd, Nat.reduceMul, Nat.reduceSub, Nat.reduceBEq, Int.reduceToNat, Int.reduceLE, Int.reduceLT, Int.reduceNeg, Nat.reduceMod, sid_ne1, sid_ne2, sid_inj, sid_mod, gT, TK.isInt, TK.agg, Array.toList]
  unfold icmp
  refine ⟨fun h => ?_, fun h => ⟨fun h2 => ?_, fun h2 => ?_⟩⟩
  · simp [h]
  · simp [h, h2]
  · simp [h, h2]
theorem c_spec_l1In (a b c : Int) : AC Try.prog 94 [int a, int b, int c] (.im (bool (decide (b ≤ a) && decide (a ≤ c)))) := by
  refine AC.go (rs := [.tmp 6]) T_ok mixed Try.func94 rfl rfl rfl (by kernel_rfl) fun _ => ?_
  simp (maxSteps := 5000000) -dsimp only [↓gp, gq, reduceCtorEq, Nat.reduceEqDiff, Nat.reduceLT, Nat.reduceLeDiff, Nat.reduceAdd, Nat.reduceMul, Nat.reduceSub, Nat.reduceBEq, Int.reduceToNat, Int.reduceLE, Int.reduceLT, Int.reduceNeg, Nat.reduceMod, sid_ne1, sid_ne2, sid_inj, sid_mod, gT, TK.isInt, TK.agg, Array.toList]
  exact ⟨fun h => by simp [h], fun h => by simp [h]⟩
def isPow (xs : List Int) : Bool := xs.length == 3 && xs.all fun n => decide (0 ≤ n) && decide (n ≤ 2)
theorem c_laws_eqIntS (xs ys : List Int) : AC Try.prog 76 [ints xs, ints ys] (.im (bool (decide (xs = ys)))) := by
  refine AC.go (rs := [.tmp 4]) T_ok mixed Try.func76 rfl rfl rfl (by kernel_rfl) fun hl => ?_
  simp only [lens_cons, lens2_iL, lens_nil, and_true] at hl
  simp (maxSteps := 5000000) -dsimp only [↓gp, gq, reduceCtorEq, Nat.reduceEqDiff, Nat.reduceLT, Nat.reduceLeDiff, Nat.reduceAdd, Nat.reduceMul, Nat.reduceSub, Nat.reduceBEq, Int.reduceToNat, Int.reduceLE, Int.reduceLT, Int.reduceNeg, Nat.reduceMod, sid_ne1, sid_ne2, sid_inj, sid_mod, gT, TK.isInt, TK.agg, Array.toList]
  refine ⟨fun h => ?_, fun h => ?_⟩
  · intro e
    simp [e] at h
  · have hn : xs.length = ys.length := by simp at h; omega
    refine loop_of (fun (i : Nat) s => s.sl 0 = ints xs ∧ s.sl 1 = ints ys ∧ s.sl 5 = int i ∧ i ≤ xs.length ∧ xs.take i = ys.take i) (fun i => xs.length - i) 0 ⟨by simp (maxSteps := 5000000) -dsimp only [gr, Nat.reduceEqDiff, Nat.reduceLT, Nat.reduceAdd, Nat.reduceMod, Nat.reduceBEq, sid_mod, sid_ne1, sid_ne2, sid_inj], by simp (maxSteps := 5000000) -dsimp only [gr, Nat.reduceEqDiff, Nat.reduceLT, Nat.reduceAdd, Nat.reduceMod, Nat.reduceBEq, sid_mod, sid_ne1, sid_ne2, sid_inj], by simp (maxSteps := 5000000) -dsimp only [gr, Nat.reduceEqDiff, Nat.reduceLT, Nat.reduceAdd, Nat.reduceMod, Nat.reduceBEq, sid_mod, sid_ne1, sid_ne2, sid_inj]; rfl, by simp, by simp⟩ ?_
    intro i s1 ⟨h0, h1, h5, hi, hall⟩
    simp (maxSteps := 5000000) -dsimp only [↓gp, gq, reduceCtorEq, Nat.reduceEqDiff, Nat.reduceLT, Nat.reduceLeDiff, Nat.reduceAdd, Nat.reduceMul, Nat.reduceSub, Nat.reduceBEq, Int.reduceToNat, Int.reduceLE, Int.reduceLT, Int.reduceNeg, Nat.reduceMod, sid_ne1, sid_ne2, sid_inj, sid_mod, gT, TK.isInt, TK.agg, Array.toList, h0, h1, h5]
    refine ⟨fun h => ⟨by kernel_rfl, h, h, by omega, by omega, fun ha => ?_, fun ha => ?_⟩, fun h => ?_⟩
    · intro e
      simp [e] at ha
    · refine again_of (i + 1) ⟨by simp (maxSteps := 5000000) -dsimp only [gr, Nat.reduceEqDiff, Nat.reduceLT, Nat.reduceAdd, Nat.reduceMod, Nat.reduceBEq, sid_mod, sid_ne1, sid_ne2, sid_inj, h0], by simp (maxSteps := 5000000) -dsimp only [gr, Nat.reduceEqDiff, Nat.reduceLT, Nat.reduceAdd, Nat.reduceMod, Nat.reduceBEq, sid_mod, sid_ne1, sid_ne2, sid_inj, h1], by simp (maxSteps := 5000000) -dsimp only [gr, Nat.reduceEqDiff, Nat.reduceLT, Nat.reduceAdd, Nat.reduceMod, Nat.reduceBEq, sid_mod, sid_ne1, sid_ne2, sid_inj]; rw [wrap_nat h hl.1], h, ?_⟩ (by omega)
      rw [take_snoc 0 h, take_snoc 0 (show i < ys.length by omega), hall]
      simp at ha
      simpa using ha
    · rw [List.take_of_length_le (by omega), List.take_of_length_le (by omega)] at hall
      exact hall
theorem c_laws_toIntS (xs : List Int) (hx : xs.length ≤ 1048576) : AC Try.prog 72 [ints xs] (.fr 3 1 (iL xs)) := by
  refine AC.go (rs := [.tmp 2]) T_ok mixed Try.func72 rfl rfl rfl (by kernel_rfl) fun hl => ?_
  simp (maxSteps := 5000000) -dsimp only [↓gp, gq, reduceCtorEq, Nat.reduceEqDiff, Nat.reduceLT, Nat.reduceLeDiff, Nat.reduceAdd, Nat.reduceMul, Nat.reduceSub, Nat.reduceBEq, Int.reduceToNat, Int.reduceLE, Int.reduceLT, Int.reduceNeg, Nat.reduceMod, sid_ne1, sid_ne2, sid_inj, sid_mod, gT, TK.isInt, TK.agg, Array.toList]
  refine ⟨by omega, by omega, ?_⟩
  refine loop_of (fun (i : Nat) s => ∃ v, s.sl 0 = ints xs ∧ s.sl 3 = .own 7 v ∧ s.rw 7 = ⟨v, .sli 3 1 false (iL (xs.take i ++ List.replicate (xs.length - i) 0))⟩ ∧ s.sl 4 = int i ∧ i ≤ xs.length) (fun i => xs.length - i) 0 ⟨1, by simp (maxSteps := 5000000) -dsimp only [gr, Nat.reduceEqDiff, Nat.reduceLT, Nat.reduceAdd, Nat.reduceMod, Nat.reduceBEq, sid_mod, sid_ne1, sid_ne2, sid_inj], by simp (maxSteps := 5000000) -dsimp only [gr, Nat.reduceEqDiff, Nat.reduceLT, Nat.reduceAdd, Nat.reduceMod, Nat.reduceBEq, sid_mod, sid_ne1, sid_ne2, sid_inj], by simp (maxSteps := 5000000) -dsimp only [gr, Nat.reduceEqDiff, Nat.reduceLT, Nat.reduceAdd, Nat.reduceMod, Nat.reduceBEq, sid_mod, sid_ne1, sid_ne2, sid_inj]; simp, by simp (maxSteps := 5000000) -dsimp only [gr, Nat.reduceEqDiff, Nat.reduceLT, Nat.reduceAdd, Nat.reduceMod, Nat.reduceBEq, sid_mod, sid_ne1, sid_ne2, sid_inj]; rfl, by simp⟩ ?_
  intro i s1 ⟨v, h0, h3, h7, h4, hi⟩
  simp (maxSteps := 5000000) -dsimp only [↓gp, gq, reduceCtorEq, Nat.reduceEqDiff, Nat.reduceLT, Nat.reduceLeDiff, Nat.reduceAdd, Nat.reduceMul, Nat.reduceSub, Nat.reduceBEq, Int.reduceToNat, Int.reduceLE, Int.reduceLT, Int.reduceNeg, Nat.reduceMod, sid_ne1, sid_ne2, sid_inj, sid_mod, gT, TK.isInt, TK.agg, Array.toList, h0, h3, h7, h4]
  have hf := fill_length (xs := xs) (z := (0 : Int)) hi
  refine ⟨fun h => ⟨h, h, by omega, by omega, ?_⟩, fun h => ?_⟩
  · refine again_of (i + 1) ⟨v, by simp (maxSteps := 5000000) -dsimp only [gr, Nat.reduceEqDiff, Nat.reduceLT, Nat.reduceAdd, Nat.reduceMod, Nat.reduceBEq, sid_mod, sid_ne1, sid_ne2, sid_inj, h0], by simp (maxSteps := 5000000) -dsimp only [gr, Nat.reduceEqDiff, Nat.reduceLT, Nat.reduceAdd, Nat.reduceMod, Nat.reduceBEq, sid_mod, sid_ne1, sid_ne2, sid_inj, h3], by simp (maxSteps := 5000000) -dsimp only [gr, Nat.reduceEqDiff, Nat.reduceLT, Nat.reduceAdd, Nat.reduceMod, Nat.reduceBEq, sid_mod, sid_ne1, sid_ne2, sid_inj]; rw [set_fill 0 0 h], by simp (maxSteps := 5000000) -dsimp only [gr, Nat.reduceEqDiff, Nat.reduceLT, Nat.reduceAdd, Nat.reduceMod, Nat.reduceBEq, sid_mod, sid_ne1, sid_ne2, sid_inj]; rw [wrap_nat h (by omega)], h⟩ (by omega)
  · rw [List.take_of_length_le (by omega), show xs.length - i = 0 by omega]; simp
theorem c_laws_szIntS (xs : List Int) (n : Int) (h0 : 0 ≤ n) (h1 : n ≤ 1048576) : AC Try.prog 68 [ints xs, int n] (.im (int (if n - xs.length < 0 then -1 else n - xs.length))) := by
  refine AC.go (rs := [.tmp 4]) T_ok mixed Try.func68 rfl rfl rfl (by kernel_rfl) fun hl => ?_
  simp only [lens_cons, lens2_iL, lens_nil, and_true] at hl
  have hw : IntKind.i64.wrap (n - xs.length) = n - xs.length := wrap_id (by omega) (by have := hl.1; omega)
  simp (maxSteps := 5000000) -dsimp only [↓gp, gq, reduceCtorEq, Nat.reduceEqDiff, Nat.reduceLT, Nat.reduceLeDiff, Nat.reduceAdd, Nat.reduceMul, Nat.reduceSub, Nat.reduceBEq, Int.reduceToNat, Int.reduceLE, Int.reduceLT, Int.reduceNeg, Nat.reduceMod, sid_ne1, sid_ne2, sid_inj, sid_mod, gT, TK.isInt, TK.agg, Array.toList, hw]
  exact ⟨fun h => by simp [h], fun h => by simp [h]⟩
def szI (n : Int) (k : Nat) : Int := if n - k < 0 then -1 else n - k
def lessL : List Int → List Int → Bool
  | [], _ => false
  | _ :: _, [] => false
  | a :: xs, b :: ys => if a = b then lessL xs ys else decide (a < b)
def cmpL : List Int → List Int → Int
  | [], [] => 0
  | [], _ :: _ => -1
  | _ :: _, [] => 1
  | a :: xs, b :: ys => if icmp a b = 0 then cmpL xs ys else icmp a b
theorem c_spec_l9Less (xs ys : List Int) : AC Try.prog 99 [ints xs, ints ys] (.im (bool (lessL xs ys))) := by
  refine AC.go (rs := [.tmp 4]) T_ok mixed Try.func99 rfl rfl rfl (by kernel_rfl) fun hl => ?_
  simp only [lens_cons, lens2_iL, lens_nil, and_true] at hl
  simp (maxSteps := 5000000) -dsimp only [↓gp, gq, reduceCtorEq, Nat.reduceEqDiff, Nat.reduceLT, Nat.reduceLeDiff, Nat.reduceAdd, Nat.reduceMul, Nat.reduceSub, Nat.reduceBEq, Int.reduceToNat, Int.reduceLE, Int.reduceLT, Int.reduceNeg, Nat.reduceMod, sid_ne1, sid_ne2, sid_inj, sid_mod, gT, TK.isInt, TK.agg, Array.toList]
  refine loop_of (fun (i : Nat) s => s.sl 0 = ints xs ∧ s.sl 1 = ints ys ∧ s.sl 5 = int i ∧ i ≤ xs.length ∧ lessL xs ys = lessL (xs.drop i) (ys.drop i)) (fun i => xs.length - i) 0 ⟨by simp (maxSteps := 5000000) -dsimp only [gr, Nat.reduceEqDiff, Nat.reduceLT, Nat.reduceAdd, Nat.reduceMod, Nat.reduceBEq, sid_mod, sid_ne1, sid_ne2, sid_inj], by simp (maxSteps := 5000000) -dsimp only [gr, Nat.reduceEqDiff, Nat.reduceLT, Nat.reduceAdd, Nat.reduceMod, Nat.reduceBEq, sid_mod, sid_ne1, sid_ne2, sid_inj], by simp (maxSteps := 5000000) -dsimp only [gr, Nat.reduceEqDiff, Nat.reduceLT, Nat.reduceAdd, Nat.reduceMod, Nat.reduceBEq, sid_mod, sid_ne1, sid_ne2, sid_inj]; rfl, by simp, by simp⟩ ?_
  intro i s1 ⟨h0, h1, h5, hi, hall⟩
  rw [hall]
  simp (maxSteps := 5000000) -dsimp only [↓gp, gq, reduceCtorEq, Nat.reduceEqDiff, Nat.reduceLT, Nat.reduceLeDiff, Nat.reduceAdd, Nat.reduceMul, Nat.reduceSub, Nat.reduceBEq, Int.reduceToNat, Int.reduceLE, Int.reduceLT, Int.reduceNeg, Nat.reduceMod, sid_ne1, sid_ne2, sid_inj, sid_mod, gT, TK.isInt, TK.agg, Array.toList, h0, h1, h5]
  refine ⟨fun h => ⟨fun h' => ⟨by kernel_rfl, h, h, h', h', fun ha => ⟨by kernel_rfl, h, h, h', h', ?_⟩, fun ha => ?_⟩, fun h' => ?_⟩, fun h => ?_⟩
  · rw [drop_step 0 h, drop_step 0 h']; simp only [lessL]; rw [if_neg (by simpa using ha)]
  · refine again_of (i + 1) ⟨by simp (maxSteps := 5000000) -dsimp only [gr, Nat.reduceEqDiff, Nat.reduceLT, Nat.reduceAdd, Nat.reduceMod, Nat.reduceBEq, sid_mod, sid_ne1, sid_ne2, sid_inj, h0], by simp (maxSteps := 5000000) -dsimp only [gr, Nat.reduceEqDiff, Nat.reduceLT, Nat.reduceAdd, Nat.reduceMod, Nat.reduceBEq, sid_mod, sid_ne1, sid_ne2, sid_inj, h1], by simp (maxSteps := 5000000) -dsimp only [gr, Nat.reduceEqDiff, Nat.reduceLT, Nat.reduceAdd, Nat.reduceMod, Nat.reduceBEq, sid_mod, sid_ne1, sid_ne2, sid_inj]; rw [wrap_nat h hl.1], h, ?_⟩ (by omega)
    rw [drop_step 0 h, drop_step 0 h']; simp only [lessL]; rw [if_pos (by simpa using ha)]
  · rw [List.drop_of_length_le (show ys.length ≤ i by omega)]
    cases xs.drop i <;> rfl
  · rw [List.drop_of_length_le (show xs.length ≤ i by omega)]; rfl
theorem c_slices_Compare (xs ys : List Int) : AC Try.prog 98 [ints xs, ints ys] (.im (int (cmpL xs ys))) := by
  refine AC.go (rs := [.tmp 4]) T_ok mixed Try.func98 rfl rfl rfl (by kernel_rfl) fun hl => ?_
  simp only [lens_cons, lens2_iL, lens_nil, and_true] at hl
  simp (maxSteps := 5000000) -dsimp only [↓gp, gq, reduceCtorEq, Nat.reduceEqDiff, Nat.reduceLT, Nat.reduceLeDiff, Nat.reduceAdd, Nat.reduceMul, Nat.reduceSub, Nat.reduceBEq, Int.reduceToNat, Int.reduceLE, Int.reduceLT, Int.reduceNeg, Nat.reduceMod, sid_ne1, sid_ne2, sid_inj, sid_mod, gT, TK.isInt, TK.agg, Array.toList]
  refine loop_of (fun (i : Nat) s => s.sl 0 = ints xs ∧ s.sl 1 = ints ys ∧ s.sl 9 = ints xs ∧ s.sl 10 = int xs.length ∧ s.sl 11 = int i ∧ i ≤ xs.length ∧ i ≤ ys.length ∧ cmpL xs ys = cmpL (xs.drop i) (ys.drop i)) (fun i => xs.length - i) 0 ⟨by simp (maxSteps := 5000000) -dsimp only [gr, Nat.reduceEqDiff, Nat.reduceLT, Nat.reduceAdd, Nat.reduceMod, Nat.reduceBEq, sid_mod, sid_ne1, sid_ne2, sid_inj], by simp (maxSteps := 5000000) -dsimp only [gr, Nat.reduceEqDiff, Nat.reduceLT, Nat.reduceAdd, Nat.reduceMod, Nat.reduceBEq, sid_mod, sid_ne1, sid_ne2, sid_inj], by simp (maxSteps := 5000000) -dsimp only [gr, Nat.reduceEqDiff, Nat.reduceLT, Nat.reduceAdd, Nat.reduceMod, Nat.reduceBEq, sid_mod, sid_ne1, sid_ne2, sid_inj], by simp (maxSteps := 5000000) -dsimp only [gr, Nat.reduceEqDiff, Nat.reduceLT, Nat.reduceAdd, Nat.reduceMod, Nat.reduceBEq, sid_mod, sid_ne1, sid_ne2, sid_inj], by simp (maxSteps := 5000000) -dsimp only [gr, Nat.reduceEqDiff, Nat.reduceLT, Nat.reduceAdd, Nat.reduceMod, Nat.reduceBEq, sid_mod, sid_ne1, sid_ne2, sid_inj]; rfl, by simp, by simp, by simp⟩ ?_
  intro i s1 ⟨h0, h1, h9, h10, h11, hi, hi2, hall⟩
  rw [hall]
  simp (maxSteps := 5000000) -dsimp only [↓gp, gq, reduceCtorEq, Nat.reduceEqDiff, Nat.reduceLT, Nat.reduceLeDiff, Nat.reduceAdd, Nat.reduceMul, Nat.reduceSub, Nat.reduceBEq, Int.reduceToNat, Int.reduceLE, Int.reduceLT, Int.reduceNeg, Nat.reduceMod, sid_ne1, sid_ne2, sid_inj, sid_mod, gT, TK.isInt, TK.agg, Array.toList, h0, h1, h9, h10, h11]
  refine ⟨fun h => ⟨h, h, fun h' => ?_, fun h' => ⟨by omega, by omega, askK_of (c_cmp_Compare _ _) ?_⟩⟩, fun h => ⟨fun h' => ?_, fun h' => ?_⟩⟩
  · rw [drop_step 0 h, List.drop_of_length_le h']; rfl
  · simp (maxSteps := 5000000) -dsimp only [↓gp, gq, reduceCtorEq, Nat.reduceEqDiff, Nat.reduceLT, Nat.reduceLeDiff, Nat.reduceAdd, Nat.reduceMul, Nat.reduceSub, Nat.reduceBEq, Int.reduceToNat, Int.reduceLE, Int.reduceLT, Int.reduceNeg, Nat.reduceMod, sid_ne1, sid_ne2, sid_inj, sid_mod, gT, TK.isInt, TK.agg, Array.toList, h0, h1, h9, h10, h11]
    refine ⟨fun ha => ?_, fun ha => ?_⟩
    · rw [drop_step 0 h, drop_step 0 (show i < ys.length by omega)]; simp only [cmpL]; rw [if_neg (by simpa using ha)]
    · refine again_of (i + 1) ⟨by simp (maxSteps := 5000000) -dsimp only [gr, Nat.reduceEqDiff, Nat.reduceLT, Nat.reduceAdd, Nat.reduceMod, Nat.reduceBEq, sid_mod, sid_ne1, sid_ne2, sid_inj, h0], by simp (maxSteps := 5000000) -dsimp only [gr, Nat.reduceEqDiff, Nat.reduceLT, Nat.reduceAdd, Nat.reduceMod, Nat.reduceBEq, sid_mod, sid_ne1, sid_ne2, sid_inj, h1], by simp (maxSteps := 5000000) -dsimp only [gr, Nat.reduceEqDiff, Nat.reduceLT, Nat.reduceAdd, Nat.reduceMod, Nat.reduceBEq, sid_mod, sid_ne1, sid_ne2, sid_inj, h9], by simp (maxSteps := 5000000) -dsimp only [gr, Nat.reduceEqDiff, Nat.reduceLT, Nat.reduceAdd, Nat.reduceMod, Nat.reduceBEq, sid_mod, sid_ne1, sid_ne2, sid_inj, h10], by simp (maxSteps := 5000000) -dsimp only [gr, Nat.reduceEqDiff, Nat.reduceLT, Nat.reduceAdd, Nat.reduceMod, Nat.reduceBEq, sid_mod, sid_ne1, sid_ne2, sid_inj]; rw [wrap_nat h hl.1], h, by omega, ?_⟩ (by omega)
      rw [drop_step 0 h, drop_step 0 (show i < ys.length by omega)]; simp only [cmpL]; rw [if_pos (by simpa using ha)]
  · rw [List.drop_of_length_le (show xs.length ≤ i by omega), drop_step 0 (show i < ys.length by omega)]; rfl
  · rw [List.drop_of_length_le (show xs.length ≤ i by omega), List.drop_of_length_le (show ys.length ≤ i by omega)]; rfl
end Go.Proofs.Ytpnknaaehcljoaa

namespace Go.Proofs.Ytpnknaaehcljoaa
open Go.Abs
set_option linter.unusedSimpArgs false
set_option linter.unusedVariables false
theorem c_spec_l2Size (n : Nat) (h : n < 9223372036854775808) : AC Try.prog 92 [int n] (.im (int (popN n : Nat))) := by
  refine AC.go (rs := [.tmp 2]) T_ok mixed Try.func92 rfl rfl rfl (by kernel_rfl) fun hl => ?_
  simp (maxSteps := 5000000) -dsimp only [↓gp, gq, reduceCtorEq, Nat.reduceEqDiff, Nat.reduceLT, Nat.reduceLeDiff, Nat.reduceAdd, Nat.reduceMul, Nat.reduceSub, Nat.reduceBEq, Int.reduceToNat, Int.reduceLE, Int.reduceLT, Int.reduceNeg, Nat.reduceMod, sid_ne1, sid_ne2, sid_inj, sid_mod, gT, TK.isInt, TK.agg, Array.toList]
  refine loop_of (fun (x : Nat × Nat) s => s.sl 0 = int x.1 ∧ s.sl 3 = int x.2 ∧ x.1 ≤ n ∧ x.2 + popN x.1 = popN n) (fun x => x.1) (n, 0) ⟨by simp (maxSteps := 5000000) -dsimp only [gr, Nat.reduceEqDiff, Nat.reduceLT, Nat.reduceAdd, Nat.reduceMod, Nat.reduceBEq, sid_mod, sid_ne1, sid_ne2, sid_inj], by simp (maxSteps := 5000000) -dsimp only [gr, Nat.reduceEqDiff, Nat.reduceLT, Nat.reduceAdd, Nat.reduceMod, Nat.reduceBEq, sid_mod, sid_ne1, sid_ne2, sid_inj]; rfl, by simp, by simp⟩ ?_
  intro ⟨m, a⟩ s1 ⟨h0, h3, hm, hp⟩
  simp only at h0 h3 hm hp
  have hpl := popN_le n
  simp (maxSteps := 5000000) -dsimp only [↓gp, gq, reduceCtorEq, Nat.reduceEqDiff, Nat.reduceLT, Nat.reduceLeDiff, Nat.reduceAdd, Nat.reduceMul, Nat.reduceSub, Nat.reduceBEq, Int.reduceToNat, Int.reduceLE, Int.reduceLT, Int.reduceNeg, Nat.reduceMod, sid_ne1, sid_ne2, sid_inj, sid_mod, gT, TK.isInt, TK.agg, Array.toList, h0, h3, iand_one (show m < 9223372036854775808 by omega), ishr_one]
  refine ⟨fun h1 => ?_, fun h1 => ?_⟩
  · have hm0 : m ≠ 0 := by omega
    rw [popN_pos hm0] at hp
    refine again_of (m / 2, a + m % 2) ⟨by simp (maxSteps := 5000000) -dsimp only [gr, Nat.reduceEqDiff, Nat.reduceLT, Nat.reduceAdd, Nat.reduceMod, Nat.reduceBEq, sid_mod, sid_ne1, sid_ne2, sid_inj], ?_, by simp only; omega, by simp only; omega⟩ (by simp only; omega)
    simp (maxSteps := 5000000) -dsimp only [gr, Nat.reduceEqDiff, Nat.reduceLT, Nat.reduceAdd, Nat.reduceMod, Nat.reduceBEq, sid_mod, sid_ne1, sid_ne2, sid_inj]
    rw [wrap_id (by omega) (by omega)]
    rfl
  · have : m = 0 := by omega
    subst this
    rw [popN_zero] at hp
    omega
theorem c_spec_l2Sizei {s : Int} (h0 : 0 ≤ s) (h : s < 9223372036854775808) : AC Try.prog 92 [int s] (.im (int (popN s.toNat : Nat))) := by
  obtain ⟨m, rfl⟩ := Int.eq_ofNat_of_zero_le h0
  exact c_spec_l2Size m (by omega)
theorem c_bits_OnesCount64 (n : Nat) (h : n < 64) : AC Try.prog 186 [u64 n] (.im (int (popN n : Nat))) := by
  refine AC.go (rs := [.tmp 2]) T_ok mixed Try.func186 rfl rfl rfl (by kernel_rfl) fun hl => ?_
  simp (maxSteps := 5000000) -dsimp only [↓gp, gq, reduceCtorEq, Nat.reduceEqDiff, Nat.reduceLT, Nat.reduceLeDiff, Nat.reduceAdd, Nat.reduceMul, Nat.reduceSub, Nat.reduceBEq, Int.reduceToNat, Int.reduceLE, Int.reduceLT, Int.reduceNeg, Nat.reduceMod, sid_ne1, sid_ne2, sid_inj, sid_mod, gT, TK.isInt, TK.agg, Array.toList]
  rw [popN_6 h]
  clear hl
  obtain ⟨m, rfl⟩ : ∃ m : Fin 64, m.val = n := ⟨⟨n, h⟩, rfl⟩
  clear h
  revert m
  decide +kernel
theorem c_bits_OnesCount (n : Nat) (h : n < 64) : AC Try.prog 148 [u64 n] (.im (int (popN n : Nat))) := by
  refine AC.go (rs := [.tmp 2]) T_ok mixed Try.func148 rfl rfl rfl (by kernel_rfl) fun hl => ?_
  simp (maxSteps := 5000000) -dsimp only [↓gp, gq, reduceCtorEq, Nat.reduceEqDiff, Nat.reduceLT, Nat.reduceLeDiff, Nat.reduceAdd, Nat.reduceMul, Nat.reduceSub, Nat.reduceBEq, Int.reduceToNat, Int.reduceLE, Int.reduceLT, Int.reduceNeg, Nat.reduceMod, sid_ne1, sid_ne2, sid_inj, sid_mod, gT, TK.isInt, TK.agg, Array.toList]
  refine askK_of (c_bits_OnesCount64 n h) ?_
  simp (maxSteps := 5000000) -dsimp only [↓gp, gq, reduceCtorEq, Nat.reduceEqDiff, Nat.reduceLT, Nat.reduceLeDiff, Nat.reduceAdd, Nat.reduceMul, Nat.reduceSub, Nat.reduceBEq, Int.reduceToNat, Int.reduceLE, Int.reduceLT, Int.reduceNeg, Nat.reduceMod, sid_ne1, sid_ne2, sid_inj, sid_mod, gT, TK.isInt, TK.agg, Array.toList]
theorem c_impl_IsSet (n s : Int) : AC Try.prog 147 [int n, int s] (.im (bool (inSet n s))) := by
  refine AC.go (rs := [.tmp 4]) T_ok mixed Try.func147 rfl rfl rfl (by kernel_rfl) fun hl => ?_
  simp (maxSteps := 5000000) -dsimp only [↓gp, gq, reduceCtorEq, Nat.reduceEqDiff, Nat.reduceLT, Nat.reduceLeDiff, Nat.reduceAdd, Nat.reduceMul, Nat.reduceSub, Nat.reduceBEq, Int.reduceToNat, Int.reduceLE, Int.reduceLT, Int.reduceNeg, Nat.reduceMod, sid_ne1, sid_ne2, sid_inj, sid_mod, gT, TK.isInt, TK.agg, Array.toList, inSet]
  refine ⟨fun h0 => ⟨fun h6 => ⟨fun hs => ?_, fun hs => by omega⟩, fun h6 => by omega⟩, fun h0 => by omega⟩
  obtain ⟨m, rfl⟩ := Int.eq_ofNat_of_zero_le h0
  rw [uwrap_nat (by omega), ishl_small (by omega), pow_nat]
  exact ⟨by omega, by simp only [h0, h6, hs, true_and]⟩
theorem c_spec_IsSet (n s : Int) : AC Try.prog 117 [int n, int s] (.im (bool (inSet n s))) := by
  refine AC.go (rs := [.tmp 4]) T_ok mixed Try.func117 rfl rfl rfl (by kernel_rfl) fun hl => ?_
  simp (maxSteps := 5000000) -dsimp only [↓gp, gq, reduceCtorEq, Nat.reduceEqDiff, Nat.reduceLT, Nat.reduceLeDiff, Nat.reduceAdd, Nat.reduceMul, Nat.reduceSub, Nat.reduceBEq, Int.reduceToNat, Int.reduceLE, Int.reduceLT, Int.reduceNeg, Nat.reduceMod, sid_ne1, sid_ne2, sid_inj, sid_mod, gT, TK.isInt, TK.agg, Array.toList]
  refine askK_of (c_spec_l1In _ _ _) ?_
  simp (maxSteps := 5000000) -dsimp only [↓gp, gq, reduceCtorEq, Nat.reduceEqDiff, Nat.reduceLT, Nat.reduceLeDiff, Nat.reduceAdd, Nat.reduceMul, Nat.reduceSub, Nat.reduceBEq, Int.reduceToNat, Int.reduceLE, Int.reduceLT, Int.reduceNeg, Nat.reduceMod, sid_ne1, sid_ne2, sid_inj, sid_mod, gT, TK.isInt, TK.agg, Array.toList]
  refine ⟨fun h => ?_, fun h => ?_⟩
  · simp only [Bool.and_eq_true, decide_eq_true_eq] at h
    obtain ⟨h0, h6⟩ := h
    obtain ⟨m, rfl⟩ := Int.eq_ofNat_of_zero_le h0
    have hp := two_pow_le (m := m) (by omega)
    have e : inSet (m : Int) s = decide (0 ≤ s ∧ s < ((2 ^ m : Nat) : Int)) := by
      rw [inSet, pow_nat]
      simp only [h0, h6, true_and]
    rw [e, uwrap_nat (by omega), ishl_small (by omega)]
    generalize (2 ^ m : Nat) = q at hp
    rw [wrap_id (by omega) (by omega)]
    refine ⟨by omega, askK_of (c_spec_l1In _ _ _) ?_⟩
    simp (maxSteps := 5000000) -dsimp only [↓gp, gq, reduceCtorEq, Nat.reduceEqDiff, Nat.reduceLT, Nat.reduceLeDiff, Nat.reduceAdd, Nat.reduceMul, Nat.reduceSub, Nat.reduceBEq, Int.reduceToNat, Int.reduceLE, Int.reduceLT, Int.reduceNeg, Nat.reduceMod, sid_ne1, sid_ne2, sid_inj, sid_mod, gT, TK.isInt, TK.agg, Array.toList]
    rw [← Bool.decide_and]
    exact decide_eq_decide.2 (by omega)
  · refine decide_eq_false fun hh => ?_
    simp [hh.1, hh.2.1] at h
def szOf (s : Int) : Int := if 0 ≤ s ∧ s < 64 then (popN s.toNat : Nat) else -1
theorem inSet_6 (s : Int) : inSet 6 s = decide (0 ≤ s ∧ s < 64) := by
  simp [inSet]
theorem c_impl_SizeOf (s : Int) : AC Try.prog 90 [int s] (.im (int (szOf s))) := by
  refine AC.go (rs := [.tmp 2]) T_ok mixed Try.func90 rfl rfl rfl (by kernel_rfl) fun hl => ?_
  simp (maxSteps := 5000000) -dsimp only [↓gp, gq, reduceCtorEq, Nat.reduceEqDiff, Nat.reduceLT, Nat.reduceLeDiff, Nat.reduceAdd, Nat.reduceMul, Nat.reduceSub, Nat.reduceBEq, Int.reduceToNat, Int.reduceLE, Int.reduceLT, Int.reduceNeg, Nat.reduceMod, sid_ne1, sid_ne2, sid_inj, sid_mod, gT, TK.isInt, TK.agg, Array.toList]
  refine askK_of (c_impl_IsSet _ _) ?_
  simp (maxSteps := 5000000) -dsimp only [↓gp, gq, reduceCtorEq, Nat.reduceEqDiff, Nat.reduceLT, Nat.reduceLeDiff, Nat.reduceAdd, Nat.reduceMul, Nat.reduceSub, Nat.reduceBEq, Int.reduceToNat, Int.reduceLE, Int.reduceLT, Int.reduceNeg, Nat.reduceMod, sid_ne1, sid_ne2, sid_inj, sid_mod, gT, TK.isInt, TK.agg, Array.toList, inSet_6]
  refine ⟨fun h => ?_, fun h => ?_⟩
  · have h : ¬ (0 ≤ s ∧ s < 64) := by simp at h; omega
    rw [szOf, if_neg h]
  · have h : 0 ≤ s ∧ s < 64 := by simpa using h
    obtain ⟨m, rfl⟩ := Int.eq_ofNat_of_zero_le h.1
    rw [uwrap_nat (by omega)]
    refine askK_of (c_bits_OnesCount m (by omega)) ?_
    simp (maxSteps := 5000000) -dsimp only [↓gp, gq, reduceCtorEq, Nat.reduceEqDiff, Nat.reduceLT, Nat.reduceLeDiff, Nat.reduceAdd, Nat.reduceMul, Nat.reduceSub, Nat.reduceBEq, Int.reduceToNat, Int.reduceLE, Int.reduceLT, Int.reduceNeg, Nat.reduceMod, sid_ne1, sid_ne2, sid_inj, sid_mod, gT, TK.isInt, TK.agg, Array.toList]
    rw [szOf, if_pos h]; rfl
def befS (a b : Int) : Bool := decide (0 ≤ a ∧ a < 64) && (decide (0 ≤ b ∧ b < 64) && (if szOf a = szOf b then decide (a < b) else decide (szOf a < szOf b)))
theorem c_impl_BeforeSet (a b : Int) : AC Try.prog 184 [int a, int b] (.im (bool (befS a b))) := by
  refine AC.go (rs := [.tmp 4]) T_ok mixed Try.func184 rfl rfl rfl (by kernel_rfl) fun hl => ?_
  simp (maxSteps := 5000000) -dsimp only [↓gp, gq, reduceCtorEq, Nat.reduceEqDiff, Nat.reduceLT, Nat.reduceLeDiff, Nat.reduceAdd, Nat.reduceMul, Nat.reduceSub, Nat.reduceBEq, Int.reduceToNat, Int.reduceLE, Int.reduceLT, Int.reduceNeg, Nat.reduceMod, sid_ne1, sid_ne2, sid_inj, sid_mod, gT, TK.isInt, TK.agg, Array.toList]
  refine askK_of (c_impl_IsSet _ _) ?_
  simp (maxSteps := 5000000) -dsimp only [↓gp, gq, reduceCtorEq, Nat.reduceEqDiff, Nat.reduceLT, Nat.reduceLeDiff, Nat.reduceAdd, Nat.reduceMul, Nat.reduceSub, Nat.reduceBEq, Int.reduceToNat, Int.reduceLE, Int.reduceLT, Int.reduceNeg, Nat.reduceMod, sid_ne1, sid_ne2, sid_inj, sid_mod, gT, TK.isInt, TK.agg, Array.toList, inSet_6]
  unfold befS
  refine ⟨fun h => askK_of (c_impl_IsSet _ _) ?_, fun h => ?_⟩
  · have ha : decide (0 ≤ a ∧ a < 64) = true := by simpa using h
    simp (maxSteps := 5000000) -dsimp only [↓gp, gq, reduceCtorEq, Nat.reduceEqDiff, Nat.reduceLT, Nat.reduceLeDiff, Nat.reduceAdd, Nat.reduceMul, Nat.reduceSub, Nat.reduceBEq, Int.reduceToNat, Int.reduceLE, Int.reduceLT, Int.reduceNeg, Nat.reduceMod, sid_ne1, sid_ne2, sid_inj, sid_mod, gT, TK.isInt, TK.agg, Array.toList, inSet_6]
    rw [ha]
    refine ⟨fun hb => ?_, fun hb => ?_⟩
    · have hb : decide (0 ≤ b ∧ b < 64) = false := by rwa [Bool.not_eq_true'] at hb
      rw [hb]; rfl
    · have hb : decide (0 ≤ b ∧ b < 64) = true := by simpa using hb
      rw [hb]
      refine askK_of (c_impl_SizeOf a) ?_
      simp (maxSteps := 5000000) -dsimp only [↓gp, gq, reduceCtorEq, Nat.reduceEqDiff, Nat.reduceLT, Nat.reduceLeDiff, Nat.reduceAdd, Nat.reduceMul, Nat.reduceSub, Nat.reduceBEq, Int.reduceToNat, Int.reduceLE, Int.reduceLT, Int.reduceNeg, Nat.reduceMod, sid_ne1, sid_ne2, sid_inj, sid_mod, gT, TK.isInt, TK.agg, Array.toList]
      refine askK_of (c_impl_SizeOf b) ?_
      simp (maxSteps := 5000000) -dsimp only [↓gp, gq, reduceCtorEq, Nat.reduceEqDiff, Nat.reduceLT, Nat.reduceLeDiff, Nat.reduceAdd, Nat.reduceMul, Nat.reduceSub, Nat.reduceBEq, Int.reduceToNat, Int.reduceLE, Int.reduceLT, Int.reduceNeg, Nat.reduceMod, sid_ne1, sid_ne2, sid_inj, sid_mod, gT, TK.isInt, TK.agg, Array.toList]
      refine ⟨fun hs => askK_of (c_impl_SizeOf a) ?_, fun hs => ?_⟩
      · simp (maxSteps := 5000000) -dsimp only [↓gp, gq, reduceCtorEq, Nat.reduceEqDiff, Nat.reduceLT, Nat.reduceLeDiff, Nat.reduceAdd, Nat.reduceMul, Nat.reduceSub, Nat.reduceBEq, Int.reduceToNat, Int.reduceLE, Int.reduceLT, Int.reduceNeg, Nat.reduceMod, sid_ne1, sid_ne2, sid_inj, sid_mod, gT, TK.isInt, TK.agg, Array.toList]
        refine askK_of (c_impl_SizeOf b) ?_
        simp (maxSteps := 5000000) -dsimp only [↓gp, gq, reduceCtorEq, Nat.reduceEqDiff, Nat.reduceLT, Nat.reduceLeDiff, Nat.reduceAdd, Nat.reduceMul, Nat.reduceSub, Nat.reduceBEq, Int.reduceToNat, Int.reduceLE, Int.reduceLT, Int.reduceNeg, Nat.reduceMod, sid_ne1, sid_ne2, sid_inj, sid_mod, gT, TK.isInt, TK.agg, Array.toList]
        have hs : ¬ szOf a = szOf b := by simpa using hs
        rw [if_neg hs]
      · have hs : szOf a = szOf b := by simpa using hs
        rw [if_pos hs]
  · have ha : decide (0 ≤ a ∧ a < 64) = false := by rwa [Bool.not_eq_true'] at h
    rw [ha]; rfl
end Go.Proofs.Ytpnknaaehcljoaa

namespace Go.Proofs.Ytpnknaaehcljoaa
open Go.Abs Go.Shelf
set_option linter.unusedSimpArgs false
set_option linter.unusedVariables false
def renSF : Go.Shelf.Ren where
  f := fun x => match x with | 6 => 201 | 15 => 214 | 14 => 213 | 28 => 224 | 29 => 225 | 20 => 216 | 21 => 217 | 22 => 218 | 23 => 219 | 24 => 220 | 25 => 221 | 26 => 222 | 27 => 223 | 46 => 226 | 47 => 227 | 48 => 228 | 49 => 229 | 50 => 230 | 57 => 231 | n => n
  t := fun x => match x with | 22 => 22 | 24 => 3 | 25 => 58 | 3 => 3 | 39 => 78 | 0 => 0 | 53 => 140 | 55 => 96 | 4 => 4 | 46 => 155 | 45 => 154 | 50 => 68 | 5 => 5 | 9 => 9 | 66 => 160 | 70 => 164 | 76 => 166 | 77 => 167 | n => n
  g := fun x => x
theorem laysSF : SlLaysF.n6 Try.prog renSF where
  mixed := mixed
  f6 := ⟨"slices.SortFunc[[]int,int]", by decide, (show Try.prog.funcs[201]? = some _ from Try.func201).trans (congrArg some (by kernel_rfl))⟩
  f14 := ⟨"slices.pdqsortCmpFunc[int]", by decide, (show Try.prog.funcs[213]? = some _ from Try.func213).trans (congrArg some (by kernel_rfl))⟩
  f15 := (show Try.prog.funcs[214]? = some _ from Try.func214).trans (congrArg some (by kernel_rfl))
  f20 := ⟨"slices.insertionSortCmpFunc[int]", by decide, (show Try.prog.funcs[216]? = some _ from Try.func216).trans (congrArg some (by kernel_rfl))⟩
  f21 := ⟨"slices.heapSortCmpFunc[int]", by decide, (show Try.prog.funcs[217]? = some _ from Try.func217).trans (congrArg some (by kernel_rfl))⟩
  f22 := ⟨"slices.breakPatternsCmpFunc[int]", by decide, (show Try.prog.funcs[218]? = some _ from Try.func218).trans (congrArg some (by kernel_rfl))⟩
  f23 := ⟨"slices.choosePivotCmpFunc[int]", by decide, (show Try.prog.funcs[219]? = some _ from Try.func219).trans (congrArg some (by kernel_rfl))⟩
  f24 := ⟨"slices.reverseRangeCmpFunc[int]", by decide, (show Try.prog.funcs[220]? = some _ from Try.func220).trans (congrArg some (by kernel_rfl))⟩
  f25 := ⟨"slices.partialInsertionSortCmpFunc[int]", by decide, (show Try.prog.funcs[221]? = some _ from Try.func221).trans (congrArg some (by kernel_rfl))⟩
  f26 := ⟨"slices.partitionEqualCmpFunc[int]", by decide, (show Try.prog.funcs[222]? = some _ from Try.func222).trans (congrArg some (by kernel_rfl))⟩
  f27 := ⟨"slices.partitionCmpFunc[int]", by decide, (show Try.prog.funcs[223]? = some _ from Try.func223).trans (congrArg some (by kernel_rfl))⟩
  f28 := (show Try.prog.funcs[224]? = some _ from Try.func224).trans (congrArg some (by kernel_rfl))
  f29 := (show Try.prog.funcs[225]? = some _ from Try.func225).trans (congrArg some (by kernel_rfl))
  f46 := ⟨"slices.siftDownCmpFunc[int]", by decide, (show Try.prog.funcs[226]? = some _ from Try.func226).trans (congrArg some (by kernel_rfl))⟩
  f47 := (show Try.prog.funcs[227]? = some _ from Try.func227).trans (congrArg some (by kernel_rfl))
  f48 := (show Try.prog.funcs[228]? = some _ from Try.func228).trans (congrArg some (by kernel_rfl))
  f49 := ⟨"slices.medianAdjacentCmpFunc[int]", by decide, (show Try.prog.funcs[229]? = some _ from Try.func229).trans (congrArg some (by kernel_rfl))⟩
  f50 := ⟨"slices.medianCmpFunc[int]", by decide, (show Try.prog.funcs[230]? = some _ from Try.func230).trans (congrArg some (by kernel_rfl))⟩
  f57 := ⟨"slices.order2CmpFunc[int]", by decide, (show Try.prog.funcs[231]? = some _ from Try.func231).trans (congrArg some (by kernel_rfl))⟩
  t0 := Try.underlying0
  a0 := Try.isAgg0
  z0 := Try.sizeOf0
  v0 := Try.zeroValue0
  t3 := Try.underlying3
  a3 := Try.isAgg3
  z3 := Try.sizeOf3
  v3 := Try.zeroValue3
  t4 := Try.underlying4
  a4 := Try.isAgg4
  z4 := Try.sizeOf4
  v4 := Try.zeroValue4
  t5 := Try.underlying5
  a5 := Try.isAgg5
  z5 := Try.sizeOf5
  v5 := Try.zeroValue5
  t9 := Try.underlying9
  a9 := Try.isAgg9
  z9 := Try.sizeOf9
  v9 := Try.zeroValue9
  t22 := Try.underlying22
  a22 := Try.isAgg22
  z22 := Try.sizeOf22
  v22 := Try.zeroValue22
  a24 := Try.isAgg3
  z24 := Try.sizeOf3
  t25 := Try.underlying58
  a25 := Try.isAgg58
  z25 := Try.sizeOf58
  v25 := Try.zeroValue58
  t39 := Try.underlying78
  a39 := Try.isAgg78
  z39 := Try.sizeOf78
  v39 := Try.zeroValue78
  t45 := Try.underlying154
  a45 := Try.isAgg154
  z45 := Try.sizeOf154
  v45 := Try.zeroValue154
  t46 := Try.underlying155
  a46 := Try.isAgg155
  z46 := Try.sizeOf155
  v46 := Try.zeroValue155
  t50 := Try.underlying68
  a50 := Try.isAgg68
  z50 := Try.sizeOf68
  v50 := Try.zeroValue68
  t53 := Try.underlying140
  a53 := Try.isAgg140
  z53 := Try.sizeOf140
  v53 := Try.zeroValue140
  t55 := Try.underlying96
  a55 := Try.isAgg96
  z55 := Try.sizeOf96
  v55 := Try.zeroValue96
  t66 := Try.underlying160
  a66 := Try.isAgg160
  z66 := Try.sizeOf160
  v66 := Try.zeroValue160
  t70 := Try.underlying164
  a70 := Try.isAgg164
  z70 := Try.sizeOf164
  v70 := Try.zeroValue164
  t76 := Try.underlying166
  a76 := Try.isAgg166
  z76 := Try.sizeOf166
  v76 := Try.zeroValue166
  t77 := Try.underlying167
  a77 := Try.isAgg167
  z77 := Try.sizeOf167
  v77 := Try.zeroValue167
theorem laysSF0 : SlLaysF0.n6 Try.prog renSF where
  mixed := mixed
  f6 := ⟨"slices.SortFunc[[]int,int]", by decide, (show Try.prog.funcs[201]? = some _ from Try.func201).trans (congrArg some (by kernel_rfl))⟩
  f14 := ⟨"slices.pdqsortCmpFunc[int]", by decide, (show Try.prog.funcs[213]? = some _ from Try.func213).trans (congrArg some (by kernel_rfl))⟩
  f15 := (show Try.prog.funcs[214]? = some _ from Try.func214).trans (congrArg some (by kernel_rfl))
  f20 := ⟨"slices.insertionSortCmpFunc[int]", by decide, (show Try.prog.funcs[216]? = some _ from Try.func216).trans (congrArg some (by kernel_rfl))⟩
  f21 := ⟨"slices.heapSortCmpFunc[int]", by decide, (show Try.prog.funcs[217]? = some _ from Try.func217).trans (congrArg some (by kernel_rfl))⟩
  f22 := ⟨"slices.breakPatternsCmpFunc[int]", by decide, (show Try.prog.funcs[218]? = some _ from Try.func218).trans (congrArg some (by kernel_rfl))⟩
  f23 := ⟨"slices.choosePivotCmpFunc[int]", by decide, (show Try.prog.funcs[219]? = some _ from Try.func219).trans (congrArg some (by kernel_rfl))⟩
  f24 := ⟨"slices.reverseRangeCmpFunc[int]", by decide, (show Try.prog.funcs[220]? = some _ from Try.func220).trans (congrArg some (by kernel_rfl))⟩
  f25 := ⟨"slices.partialInsertionSortCmpFunc[int]", by decide, (show Try.prog.funcs[221]? = some _ from Try.func221).trans (congrArg some (by kernel_rfl))⟩
  f26 := ⟨"slices.partitionEqualCmpFunc[int]", by decide, (show Try.prog.funcs[222]? = some _ from Try.func222).trans (congrArg some (by kernel_rfl))⟩
  f27 := ⟨"slices.partitionCmpFunc[int]", by decide, (show Try.prog.funcs[223]? = some _ from Try.func223).trans (congrArg some (by kernel_rfl))⟩
  f28 := (show Try.prog.funcs[224]? = some _ from Try.func224).trans (congrArg some (by kernel_rfl))
  f29 := (show Try.prog.funcs[225]? = some _ from Try.func225).trans (congrArg some (by kernel_rfl))
  f46 := ⟨"slices.siftDownCmpFunc[int]", by decide, (show Try.prog.funcs[226]? = some _ from Try.func226).trans (congrArg some (by kernel_rfl))⟩
  f47 := (show Try.prog.funcs[227]? = some _ from Try.func227).trans (congrArg some (by kernel_rfl))
  f48 := (show Try.prog.funcs[228]? = some _ from Try.func228).trans (congrArg some (by kernel_rfl))
  f49 := ⟨"slices.medianAdjacentCmpFunc[int]", by decide, (show Try.prog.funcs[229]? = some _ from Try.func229).trans (congrArg some (by kernel_rfl))⟩
  f50 := ⟨"slices.medianCmpFunc[int]", by decide, (show Try.prog.funcs[230]? = some _ from Try.func230).trans (congrArg some (by kernel_rfl))⟩
  f57 := ⟨"slices.order2CmpFunc[int]", by decide, (show Try.prog.funcs[231]? = some _ from Try.func231).trans (congrArg some (by kernel_rfl))⟩
  t0 := Try.underlying0
  a0 := Try.isAgg0
  z0 := Try.sizeOf0
  v0 := Try.zeroValue0
  t3 := Try.underlying3
  a3 := Try.isAgg3
  z3 := Try.sizeOf3
  v3 := Try.zeroValue3
  t4 := Try.underlying4
  a4 := Try.isAgg4
  z4 := Try.sizeOf4
  v4 := Try.zeroValue4
  t5 := Try.underlying5
  a5 := Try.isAgg5
  z5 := Try.sizeOf5
  v5 := Try.zeroValue5
  t9 := Try.underlying9
  a9 := Try.isAgg9
  z9 := Try.sizeOf9
  v9 := Try.zeroValue9
  t22 := Try.underlying22
  a22 := Try.isAgg22
  z22 := Try.sizeOf22
  v22 := Try.zeroValue22
  t25 := Try.underlying58
  a25 := Try.isAgg58
  z25 := Try.sizeOf58
  v25 := Try.zeroValue58
  t39 := Try.underlying78
  a39 := Try.isAgg78
  z39 := Try.sizeOf78
  v39 := Try.zeroValue78
  t45 := Try.underlying154
  a45 := Try.isAgg154
  z45 := Try.sizeOf154
  v45 := Try.zeroValue154
  t46 := Try.underlying155
  a46 := Try.isAgg155
  z46 := Try.sizeOf155
  v46 := Try.zeroValue155
  t50 := Try.underlying68
  a50 := Try.isAgg68
  z50 := Try.sizeOf68
  v50 := Try.zeroValue68
  t53 := Try.underlying140
  a53 := Try.isAgg140
  z53 := Try.sizeOf140
  v53 := Try.zeroValue140
  t55 := Try.underlying96
  a55 := Try.isAgg96
  z55 := Try.sizeOf96
  v55 := Try.zeroValue96
  t66 := Try.underlying160
  a66 := Try.isAgg160
  z66 := Try.sizeOf160
  v66 := Try.zeroValue160
  t70 := Try.underlying164
  a70 := Try.isAgg164
  z70 := Try.sizeOf164
  v70 := Try.zeroValue164
  t76 := Try.underlying166
  a76 := Try.isAgg166
  z76 := Try.sizeOf166
  v76 := Try.zeroValue166
  t77 := Try.underlying167
  a77 := Try.isAgg167
  z77 := Try.sizeOf167
  v77 := Try.zeroValue167
end Go.Proofs.Ytpnknaaehcljoaa

namespace Go.Proofs.Ytpnknaaehcljoaa
open Go.Abs
set_option linter.unusedSimpArgs false
set_option linter.unusedVariables false

/-- The order of sets as the sorter asks for it. -/
def cmpS (a b : Int) : Int := if a = b then 0 else if befS a b then -1 else 1
theorem c_impl_renamedFacets1 (a b : Int) : AC Try.prog 202 [int a, int b] (.im (int (cmpS a b))) := by
  refine AC.go (rs := [.tmp 4]) T_ok mixed Try.func202 rfl rfl rfl (by kernel_rfl) fun hl => ?_
  simp (maxSteps := 5000000) -dsimp only [↓gp, gq, reduceCtorEq, Nat.reduceEqDiff, Nat.reduceLT, Nat.reduceLeDiff, Nat.reduceAdd, Nat.reduceMul, Nat.reduceSub, Nat.reduceBEq, Int.reduceToNat, Int.reduceLE, Int.reduceLT, Int.reduceNeg, Nat.reduceMod, sid_ne1, sid_ne2, sid_inj, sid_mod, gT, TK.isInt, TK.agg, Array.toList]
  unfold cmpS
  refine ⟨fun h => ?_, fun h => askK_of (c_impl_BeforeSet _ _) ?_⟩
  · rw [if_pos (by simpa using h)]
  · rw [if_neg (by simpa using h)]
    simp (maxSteps := 5000000) -dsimp only [↓gp, gq, reduceCtorEq, Nat.reduceEqDiff, Nat.reduceLT, Nat.reduceLeDiff, Nat.reduceAdd, Nat.reduceMul, Nat.reduceSub, Nat.reduceBEq, Int.reduceToNat, Int.reduceLE, Int.reduceLT, Int.reduceNeg, Nat.reduceMod, sid_ne1, sid_ne2, sid_inj, sid_mod, gT, TK.isInt, TK.agg, Array.toList]
    refine ⟨fun h => ?_, fun h => ?_⟩
    · rw [h]; rfl
    · rw [h]; rfl
end Go.Proofs.Ytpnknaaehcljoaa

namespace Go.Proofs.Ytpnknaaehcljoaa
open Go.Abs
set_option linter.unusedSimpArgs false
set_option linter.unusedVariables false
end Go.Proofs.Ytpnknaaehcljoaa

namespace Go.Proofs.Ytpnknaaehcljoaa
open Go.Abs
set_option linter.unusedSimpArgs false
set_option linter.unusedVariables false
theorem szI_le {n : Int} {k : Nat} (h1 : n ≤ 1048576) (h : ¬ szI n k < 0) : 0 ≤ szI n k ∧ szI n k ≤ 1048576 ∧ k ≤ 1048576 := by
  unfold szI at h ⊢
  split at h
  · simp at h
  · rename_i h2
    rw [if_neg h2]
    omega
/-- Two numbered lists are one. -/
def sameG (n : Int) (xs : List Int) (m : Int) (ys : List Int) : Bool := n == m && decide (xs = ys)
end Go.Proofs.Ytpnknaaehcljoaa

namespace Go.Proofs.Ytpnknaaehcljoaa
open Go.Abs
set_option linter.unusedSimpArgs false
set_option linter.unusedVariables false

theorem c_impl_hasSet (F s : Nat) (hF : F < 18446744073709551616) (hs : s < 64) : AC Try.prog 130 [u64 F, int s] (.im (bool (F.testBit s))) := by
  refine AC.go (rs := [.tmp 4]) T_ok mixed Try.func130 rfl rfl rfl (by kernel_rfl) fun hl => ?_
  have hw : IntKind.u64.wrap (s : Int) = (s : Int) := uwrap_id (by omega)
  simp (maxSteps := 5000000) -dsimp only [↓gp, gq, reduceCtorEq, Nat.reduceEqDiff, Nat.reduceLT, Nat.reduceLeDiff, Nat.reduceAdd, Nat.reduceMul, Nat.reduceSub, Nat.reduceBEq, Int.reduceToNat, Int.reduceLE, Int.reduceLT, Int.reduceNeg, Nat.reduceMod, sid_ne1, sid_ne2, sid_inj, sid_mod, gT, TK.isInt, TK.agg, Array.toList, hw, bit_test hF hs]
/-- A list of sets as a family. -/
noncomputable def inF (xs : List Int) (s : Nat) : Bool := decide ((s : Int) ∈ xs)
noncomputable def hasRow (xs : List Int) (k : Nat) : List Bool := (List.range 64).map fun s => inF (xs.take k) s
theorem hasRow_length (xs : List Int) (k : Nat) : (hasRow xs k).length = 64 := by simp [hasRow]
theorem hasRow_zero (xs : List Int) : List.replicate 64 false = hasRow xs 0 := by
  refine List.ext_getElem (by simp [hasRow]) fun j h1 h2 => ?_
  rw [List.getElem_replicate]
  simp [hasRow, inF]
theorem hasRow_set {xs : List Int} {k : Nat} (h : k < xs.length) (hx : 0 ≤ xs.getD k 0 ∧ xs.getD k 0 < 64) : (hasRow xs k).set (xs.getD k 0).toNat true = hasRow xs (k + 1) := by
  refine List.ext_getElem (by simp [hasRow]) fun j h1 h2 => ?_
  simp only [hasRow, List.getElem_set, List.getElem_map, List.getElem_range]
  have e : inF (xs.take (k + 1)) j = (inF (xs.take k) j || decide ((j : Int) = xs.getD k 0)) := by
    unfold inF
    rw [take_snoc 0 h, ← Bool.decide_or]
    exact decide_eq_decide.2 (by simp only [List.mem_append, List.mem_singleton])
  rw [e]
  by_cases hj : (xs.getD k 0).toNat = j
  · rw [if_pos hj]
    have : (j : Int) = xs.getD k 0 := by omega
    simp only [this, decide_true, Bool.or_true]
  · rw [if_neg hj]
    have : ¬ (j : Int) = xs.getD k 0 := by omega
    simp only [this, decide_false, Bool.or_false]
theorem c_spec_l2Order (xs : List Int) (hx : ∀ x ∈ xs, 0 ≤ x ∧ x < 64) : AC Try.prog 162 [ints xs] (.fr 3 1 (iL (ofN (ordN (inF xs))))) := by
  refine AC.go (rs := [.tmp 2]) T_ok mixed Try.func162 rfl rfl rfl (by kernel_rfl) fun hl => ?_
  simp only [lens_cons, lens_nil, and_true, lens2_v, lens2_iL, true_and] at hl
  simp (maxSteps := 5000000) -dsimp only [↓gp, gq, reduceCtorEq, Nat.reduceEqDiff, Nat.reduceLT, Nat.reduceLeDiff, Nat.reduceAdd, Nat.reduceMul, Nat.reduceSub, Nat.reduceBEq, Int.reduceToNat, Int.reduceLE, Int.reduceLT, Int.reduceNeg, Nat.reduceMod, sid_ne1, sid_ne2, sid_inj, sid_mod, gT, TK.isInt, TK.agg, Array.toList]
  refine ⟨by decide, ?_⟩
  refine loop_of (fun (za : Nat × Nat) s => match za with | (k, v) => s.sl 0 = ints xs ∧ s.sl 3 = .own 8 v ∧ s.rw 8 = ⟨v, .sli 4 1 false (bL (hasRow xs k))⟩ ∧ s.sl 4 = int k ∧ (k ≤ xs.length)) (fun (k, v) => xs.length - k) ((0, 1)) (by refine ⟨?_, ?_, ?_, ?_, by simp⟩ <;> (first | (simp (maxSteps := 5000000) -dsimp only [gr, Nat.reduceEqDiff, Nat.reduceLT, Nat.reduceAdd, Nat.reduceMod, Nat.reduceBEq, sid_mod, sid_ne1, sid_ne2, sid_inj, bL_replicate, hasRow_zero, Int.reduceToNat]; first | done | rfl | (simp; done)) | assumption | rfl)) ?_
  intro (k, v) sa ⟨h0a, h3a, r8a, h4a, hIa⟩
  simp (maxSteps := 5000000) -dsimp only [↓gp, gq, reduceCtorEq, Nat.reduceEqDiff, Nat.reduceLT, Nat.reduceLeDiff, Nat.reduceAdd, Nat.reduceMul, Nat.reduceSub, Nat.reduceBEq, Int.reduceToNat, Int.reduceLE, Int.reduceLT, Int.reduceNeg, Nat.reduceMod, sid_ne1, sid_ne2, sid_inj, sid_mod, gT, TK.isInt, TK.agg, Array.toList, h0a, h3a, r8a, h4a, hasRow_length]
  refine ⟨fun hk => ?_, fun hk => ?_⟩
  · have hx1 := hx _ (getD_mem 0 hk)
    refine ⟨hk, hk, by omega, by omega, by omega, ?_⟩
    exact again_of ((k + 1, v)) (by refine ⟨?_, ?_, ?_, ?_, by omega⟩ <;> (first | (simp (maxSteps := 5000000) -dsimp only [gr, Nat.reduceEqDiff, Nat.reduceLT, Nat.reduceAdd, Nat.reduceMod, Nat.reduceBEq, sid_mod, sid_ne1, sid_ne2, sid_inj, h0a, h3a, r8a, h4a, wrap_nat hk hl, hasRow_set hk hx1]; first | done | rfl | (simp; done)) | assumption | rfl)) (by first | omega | (simp only; omega) | (dsimp only; omega) | (show _ < _; simp; omega))
  · have : k = xs.length := by omega
    subst this
    have hall : ∀ s, s < 64 → (hasRow xs xs.length).getD s false = inF xs s := fun s hs => by
      rw [getD_at false (by rw [hasRow_length]; exact hs)]
      simp [hasRow]
    have hrl := hasRow_length xs xs.length
    generalize hasRow xs xs.length = row at *
    refine loop_of (fun (zb : Nat × Nat × Nat) s => match zb with | (k, v, u) => s.sl 3 = .own 8 u ∧ s.rw 8 = ⟨u, .sli 4 1 false (bL row)⟩ ∧ s.sl 5 = .own 21 v ∧ s.rw 21 = ⟨v, .sli 3 1 false (iL (ofN (ordP (inF xs) k 0)))⟩ ∧ s.sl 6 = int k ∧ (k ≤ 7)) (fun (k, v, u) => 7 - k) ((0, (sa.rw 21).ver + 1, v)) (by refine ⟨?_, ?_, ?_, ?_, ?_, by simp⟩ <;> (first | (simp (maxSteps := 5000000) -dsimp only [gr, Nat.reduceEqDiff, Nat.reduceLT, Nat.reduceAdd, Nat.reduceMod, Nat.reduceBEq, sid_mod, sid_ne1, sid_ne2, sid_inj, h0a, h3a, r8a, h4a]; first | done | rfl | (simp; done)) | assumption | rfl)) ?_
    intro (k, v, u) sb ⟨h3b, r8b, h5b, r21b, h6b, hIb⟩
    simp (maxSteps := 5000000) -dsimp only [↓gp, gq, reduceCtorEq, Nat.reduceEqDiff, Nat.reduceLT, Nat.reduceLeDiff, Nat.reduceAdd, Nat.reduceMul, Nat.reduceSub, Nat.reduceBEq, Int.reduceToNat, Int.reduceLE, Int.reduceLT, Int.reduceNeg, Nat.reduceMod, sid_ne1, sid_ne2, sid_inj, sid_mod, gT, TK.isInt, TK.agg, Array.toList, h3b, r8b, h5b, r21b, h6b]
    refine ⟨fun hk => ?_, fun hk => ?_⟩
    · refine loop_of (fun (zc : Nat × Nat) s => match zc with | (m, v) => s.sl 3 = .own 8 u ∧ s.rw 8 = ⟨u, .sli 4 1 false (bL row)⟩ ∧ s.sl 5 = .own 21 v ∧ s.rw 21 = ⟨v, .sli 3 1 false (iL (ofN (ordP (inF xs) k m)))⟩ ∧ s.sl 6 = int k ∧ s.sl 7 = int m ∧ (m ≤ 64)) (fun (m, v) => 64 - m) ((0, v)) (by refine ⟨?_, ?_, ?_, ?_, ?_, ?_, by simp⟩ <;> (first | (simp (maxSteps := 5000000) -dsimp only [gr, Nat.reduceEqDiff, Nat.reduceLT, Nat.reduceAdd, Nat.reduceMod, Nat.reduceBEq, sid_mod, sid_ne1, sid_ne2, sid_inj, h3b, r8b, h5b, r21b, h6b]; first | done | rfl | (simp; done)) | assumption | rfl)) ?_
      intro (m, v) sc ⟨h3c, r8c, h5c, r21c, h6c, h7c, hIc⟩
      simp (maxSteps := 5000000) -dsimp only [↓gp, gq, reduceCtorEq, Nat.reduceEqDiff, Nat.reduceLT, Nat.reduceLeDiff, Nat.reduceAdd, Nat.reduceMul, Nat.reduceSub, Nat.reduceBEq, Int.reduceToNat, Int.reduceLE, Int.reduceLT, Int.reduceNeg, Nat.reduceMod, sid_ne1, sid_ne2, sid_inj, sid_mod, gT, TK.isInt, TK.agg, Array.toList, h3c, r8c, h5c, r21c, h6c, h7c, hrl]
      have hlen := ordP_len (inF xs) k m
      refine ⟨fun hm => ⟨by omega, by omega, ?_⟩, fun hm => ?_⟩
      · have hm : m < 64 := by omega
        rw [hall m hm]
        refine ⟨fun hf => askK_of (c_spec_l2Sizei (by omega) (by omega)) ?_, fun hf => ?_⟩
        · simp (maxSteps := 5000000) -dsimp only [↓gp, gq, reduceCtorEq, Nat.reduceEqDiff, Nat.reduceLT, Nat.reduceLeDiff, Nat.reduceAdd, Nat.reduceMul, Nat.reduceSub, Nat.reduceBEq, Int.reduceToNat, Int.reduceLE, Int.reduceLT, Int.reduceNeg, Nat.reduceMod, sid_ne1, sid_ne2, sid_inj, sid_mod, gT, TK.isInt, TK.agg, Array.toList, h3c, r8c, h5c, r21c, h6c, h7c, Int.toNat_natCast]
          refine ⟨fun hp => ?_, fun hp => ?_⟩
          · have hy : ordP (inF xs) k (m + 1) = ordP (inF xs) k m ++ [m] := ordP_yes (by rw [hf]; simp at hp ⊢; omega)
            refine ⟨by rw [ofN_length]; omega, ?_⟩
            exact again_of ((m + 1, v + 1)) (by refine ⟨?_, ?_, ?_, ?_, ?_, ?_, by omega⟩ <;> (first | (simp (maxSteps := 5000000) -dsimp only [gr, Nat.reduceEqDiff, Nat.reduceLT, Nat.reduceAdd, Nat.reduceMod, Nat.reduceBEq, sid_mod, sid_ne1, sid_ne2, sid_inj, h3c, r8c, h5c, r21c, h6c, h7c, wrap_nat hm (by omega), hy, ofN_append, ofN_one]; first | done | rfl | (simp; done)) | assumption | rfl)) (by first | omega | (simp only; omega) | (dsimp only; omega) | (show _ < _; simp; omega))
          · have hy : ordP (inF xs) k (m + 1) = ordP (inF xs) k m := ordP_no (by rw [hf]; simp at hp ⊢; omega)
            exact again_of ((m + 1, v)) (by refine ⟨?_, ?_, ?_, ?_, ?_, ?_, by omega⟩ <;> (first | (simp (maxSteps := 5000000) -dsimp only [gr, Nat.reduceEqDiff, Nat.reduceLT, Nat.reduceAdd, Nat.reduceMod, Nat.reduceBEq, sid_mod, sid_ne1, sid_ne2, sid_inj, h3c, r8c, h5c, r21c, h6c, h7c, wrap_nat hm (by omega), hy]; first | done | rfl | (simp; done)) | assumption | rfl)) (by first | omega | (simp only; omega) | (dsimp only; omega) | (show _ < _; simp; omega))
        · have hy : ordP (inF xs) k (m + 1) = ordP (inF xs) k m := ordP_no (by rw [hf]; rfl)
          exact again_of ((m + 1, v)) (by refine ⟨?_, ?_, ?_, ?_, ?_, ?_, by omega⟩ <;> (first | (simp (maxSteps := 5000000) -dsimp only [gr, Nat.reduceEqDiff, Nat.reduceLT, Nat.reduceAdd, Nat.reduceMod, Nat.reduceBEq, sid_mod, sid_ne1, sid_ne2, sid_inj, h3c, r8c, h5c, r21c, h6c, h7c, wrap_nat hm (by omega), hy]; first | done | rfl | (simp; done)) | assumption | rfl)) (by first | omega | (simp only; omega) | (dsimp only; omega) | (show _ < _; simp; omega))
      · have : m = 64 := by omega
        subst this
        have hk : k < 7 := by omega
        exact again_of ((k + 1, v, u)) (by refine ⟨?_, ?_, ?_, ?_, ?_, by omega⟩ <;> (first | (simp (maxSteps := 5000000) -dsimp only [gr, Nat.reduceEqDiff, Nat.reduceLT, Nat.reduceAdd, Nat.reduceMod, Nat.reduceBEq, sid_mod, sid_ne1, sid_ne2, sid_inj, h3b, r8b, h5b, r21b, h6b, h3c, r8c, h5c, r21c, h6c, h7c, wrap_nat hk (by omega), ordP_next]; first | done | rfl | (simp; done)) | assumption | rfl)) (by first | omega | (simp only; omega) | (dsimp only; omega) | (show _ < _; simp; omega))
    · have : k = 7 := by omega
      subst this
      rw [ordP_all]
end Go.Proofs.Ytpnknaaehcljoaa

namespace Go.Proofs.Ytpnknaaehcljoaa
open Go.Abs
set_option linter.unusedSimpArgs false
set_option linter.unusedVariables false

/-- A set under new names: what the first k names make of it. -/
def renF (s : Nat) (ns : List Nat) : Nat → Nat
  | 0 => 0
  | k + 1 => if s.testBit k then renF s ns k ||| 2 ^ (ns.getD k 0) else renF s ns k
theorem renF_lt (s : Nat) (ns : List Nat) (hn : ∀ k, k < ns.length → ns.getD k 0 < 6) : ∀ k, k ≤ ns.length → renF s ns k < 64
  | 0, _ => by simp [renF]
  | k + 1, h => by
    have ih := renF_lt s ns hn k (by omega)
    have := hn k (by omega)
    rw [renF]
    split
    · exact Nat.or_lt_two_pow (n := 6) ih (Nat.pow_lt_pow_right (by omega) this)
    · exact ih
theorem ren_bit : ∀ s, s < 64 → ∀ k, k < 6 → (iand .i64 (ishr .i64 (s : Nat) (k : Nat)) 1 == 1) = Nat.testBit s k := by decide +kernel
theorem ren_or : ∀ u, u < 64 → ∀ k, k < 6 → ior .i64 (u : Nat) (ishl .i64 1 (k : Nat)) = ((u ||| 2 ^ k : Nat) : Int) := by decide +kernel
theorem c_impl_renamed (m : Nat) (hs : m < 64) (ns : List Nat) (hl6 : ns.length ≤ 6) (hn : ∀ k, k < ns.length → ns.getD k 0 < 6) : AC Try.prog 200 [int m, ints (ofN ns)] (.im (int (renF m ns ns.length : Nat))) := by
  refine AC.go (rs := [.tmp 4]) T_ok mixed Try.func200 rfl rfl rfl (by kernel_rfl) fun hl => ?_
  simp (maxSteps := 5000000) -dsimp only [↓gp, gq, reduceCtorEq, Nat.reduceEqDiff, Nat.reduceLT, Nat.reduceLeDiff, Nat.reduceAdd, Nat.reduceMul, Nat.reduceSub, Nat.reduceBEq, Int.reduceToNat, Int.reduceLE, Int.reduceLT, Int.reduceNeg, Nat.reduceMod, sid_ne1, sid_ne2, sid_inj, sid_mod, gT, TK.isInt, TK.agg, Array.toList, ofN_length]
  refine loop_of (fun (k : Nat) s => s.sl 0 = int m ∧ s.sl 1 = ints (ofN ns) ∧ s.sl 5 = int (renF m ns k : Nat) ∧ s.sl 8 = ints (ofN ns) ∧ s.sl 9 = int ns.length ∧ s.sl 10 = int k ∧ (k ≤ ns.length)) (fun k => ns.length - k) (0) (by refine ⟨?_, ?_, ?_, ?_, ?_, ?_, by simp⟩ <;> (first | (simp (maxSteps := 5000000) -dsimp only [gr, Nat.reduceEqDiff, Nat.reduceLT, Nat.reduceAdd, Nat.reduceMod, Nat.reduceBEq, sid_mod, sid_ne1, sid_ne2, sid_inj, ofN_length]; first | done | rfl | (simp; done)) | assumption | rfl)) ?_
  intro k sa ⟨h0a, h1a, h5a, h8a, h9a, h10a, hIa⟩
  simp (maxSteps := 5000000) -dsimp only [↓gp, gq, reduceCtorEq, Nat.reduceEqDiff, Nat.reduceLT, Nat.reduceLeDiff, Nat.reduceAdd, Nat.reduceMul, Nat.reduceSub, Nat.reduceBEq, Int.reduceToNat, Int.reduceLE, Int.reduceLT, Int.reduceNeg, Nat.reduceMod, sid_ne1, sid_ne2, sid_inj, sid_mod, gT, TK.isInt, TK.agg, Array.toList, h0a, h1a, h5a, h8a, h9a, h10a, ofN_length]
  refine ⟨fun hk => ⟨hk, hk, ?_⟩, fun hk => ?_⟩
  · have hx := hn k hk
    have hge : (ofN ns).getD k 0 = ((ns.getD k 0 : Nat) : Int) := ofN_getD hk
    have huk : IntKind.u64.wrap (k : Int) = (k : Int) := uwrap_nat (by omega)
    have hux : IntKind.u64.wrap ((ns.getD k 0 : Nat) : Int) = ((ns.getD k 0 : Nat) : Int) := uwrap_nat (by omega)
    have hb := ren_bit m hs k (by omega)
    have ho := ren_or _ (renF_lt m ns hn k hIa) _ hx
    rw [hge, huk, hux, ho, hb]
    refine ⟨by omega, fun h => ⟨by omega, ?_⟩, fun h => ?_⟩
    · have hm : renF m ns (k + 1) = renF m ns k ||| 2 ^ (ns.getD k 0) := by rw [renF, if_pos h]
      exact again_of (k + 1) (by refine ⟨?_, ?_, ?_, ?_, ?_, ?_, by omega⟩ <;> (first | (simp (maxSteps := 5000000) -dsimp only [gr, Nat.reduceEqDiff, Nat.reduceLT, Nat.reduceAdd, Nat.reduceMod, Nat.reduceBEq, sid_mod, sid_ne1, sid_ne2, sid_inj, h0a, h1a, h5a, h8a, h9a, h10a, wrap_nat hk (by omega), hm]; first | done | rfl | (simp; done)) | assumption | rfl)) (by first | omega | (simp only; omega) | (dsimp only; omega) | (show _ < _; simp; omega))
    · have hm : renF m ns (k + 1) = renF m ns k := by rw [renF, if_neg (by rw [h]; decide)]
      exact again_of (k + 1) (by refine ⟨?_, ?_, ?_, ?_, ?_, ?_, by omega⟩ <;> (first | (simp (maxSteps := 5000000) -dsimp only [gr, Nat.reduceEqDiff, Nat.reduceLT, Nat.reduceAdd, Nat.reduceMod, Nat.reduceBEq, sid_mod, sid_ne1, sid_ne2, sid_inj, h0a, h1a, h5a, h8a, h9a, h10a, wrap_nat hk (by omega), hm]; first | done | rfl | (simp; done)) | assumption | rfl)) (by first | omega | (simp only; omega) | (dsimp only; omega) | (show _ < _; simp; omega))
  · have : k = ns.length := by omega
    rw [this]

/-- What lies in a set under new names. -/
theorem renF_bit (m : Nat) (ns : List Nat) (j : Nat) : ∀ k, (renF m ns k).testBit j = true ↔ ∃ i, i < k ∧ m.testBit i = true ∧ ns.getD i 0 = j
  | 0 => by simp [renF]
  | k + 1 => by
    have ih := renF_bit m ns j k
    rw [renF]
    constructor
    · intro h
      by_cases hb : m.testBit k = true
      · rw [if_pos hb, Nat.testBit_or, Bool.or_eq_true, ih, Nat.testBit_two_pow] at h
        rcases h with ⟨i, h1, h2, h3⟩ | h
        · exact ⟨i, by omega, h2, h3⟩
        · exact ⟨k, by omega, hb, by simpa using h⟩
      · rw [if_neg hb, ih] at h
        obtain ⟨i, h1, h2, h3⟩ := h
        exact ⟨i, by omega, h2, h3⟩
    · rintro ⟨i, h1, h2, h3⟩
      by_cases hb : m.testBit k = true
      · rw [if_pos hb, Nat.testBit_or, Bool.or_eq_true, ih, Nat.testBit_two_pow]
        by_cases hi : i = k
        · right; subst hi; rw [h3]; simp
        · left; exact ⟨i, by omega, h2, h3⟩
      · rw [if_neg hb, ih]
        by_cases hi : i = k
        · subst hi; exact absurd h2 hb
        · exact ⟨i, by omega, h2, h3⟩
theorem ren_add : ∀ u, u < 64 → ∀ k, k < 6 → u.testBit k = false → ∀ b : Bool, IntKind.i64.wrap ((u : Nat) + ishl .i64 (if b then 1 else 0) (k : Nat)) = (((if b then u ||| 2 ^ k else u) : Nat) : Int) := by decide +kernel
theorem ren_bit01 : ∀ s, s < 64 → ∀ k, k < 6 → iand .i64 (ishr .i64 (s : Nat) (k : Nat)) 1 = (if Nat.testBit s k then 1 else 0) := by decide +kernel
theorem c_spec_l9Set (m : Nat) (hs : m < 64) (ns : List Nat) (hl6 : ns.length ≤ 6) (hn : ∀ k, k < ns.length → ns.getD k 0 < 6) (hd : ∀ i k, i < k → k < ns.length → ns.getD i 0 ≠ ns.getD k 0) : AC Try.prog 198 [int m, ints (ofN ns)] (.im (int (renF m ns ns.length : Nat))) := by
  refine AC.go (rs := [.tmp 4]) T_ok mixed Try.func198 rfl rfl rfl (by kernel_rfl) fun hl => ?_
  simp (maxSteps := 5000000) -dsimp only [↓gp, gq, reduceCtorEq, Nat.reduceEqDiff, Nat.reduceLT, Nat.reduceLeDiff, Nat.reduceAdd, Nat.reduceMul, Nat.reduceSub, Nat.reduceBEq, Int.reduceToNat, Int.reduceLE, Int.reduceLT, Int.reduceNeg, Nat.reduceMod, sid_ne1, sid_ne2, sid_inj, sid_mod, gT, TK.isInt, TK.agg, Array.toList, ofN_length]
  refine loop_of (fun (k : Nat) s => s.sl 0 = int m ∧ s.sl 1 = ints (ofN ns) ∧ s.sl 5 = int (renF m ns k : Nat) ∧ s.sl 6 = int k ∧ (k ≤ ns.length)) (fun k => ns.length - k) (0) (by refine ⟨?_, ?_, ?_, ?_, by simp⟩ <;> (first | (simp (maxSteps := 5000000) -dsimp only [gr, Nat.reduceEqDiff, Nat.reduceLT, Nat.reduceAdd, Nat.reduceMod, Nat.reduceBEq, sid_mod, sid_ne1, sid_ne2, sid_inj, ofN_length]; first | done | rfl | (simp; done)) | assumption | rfl)) ?_
  intro k sa ⟨h0a, h1a, h5a, h6a, hIa⟩
  simp (maxSteps := 5000000) -dsimp only [↓gp, gq, reduceCtorEq, Nat.reduceEqDiff, Nat.reduceLT, Nat.reduceLeDiff, Nat.reduceAdd, Nat.reduceMul, Nat.reduceSub, Nat.reduceBEq, Int.reduceToNat, Int.reduceLE, Int.reduceLT, Int.reduceNeg, Nat.reduceMod, sid_ne1, sid_ne2, sid_inj, sid_mod, gT, TK.isInt, TK.agg, Array.toList, h0a, h1a, h5a, h6a, ofN_length]
  refine ⟨fun hk => ?_, fun hk => ?_⟩
  · have hx := hn k hk
    have hge : (ofN ns).getD k 0 = ((ns.getD k 0 : Nat) : Int) := ofN_getD hk
    have huk : IntKind.u64.wrap (k : Int) = (k : Int) := uwrap_nat (by omega)
    have hux : IntKind.u64.wrap ((ns.getD k 0 : Nat) : Int) = ((ns.getD k 0 : Nat) : Int) := uwrap_nat (by omega)
    have hb := ren_bit01 m hs k (by omega)
    have hf : (renF m ns k).testBit (ns.getD k 0) = false := by
      rw [← Bool.not_eq_true, renF_bit]
      rintro ⟨i, h1, _, h3⟩
      exact hd i k h1 hk h3
    have ho := ren_add _ (renF_lt m ns hn k hIa) _ hx hf (m.testBit k)
    have hm : (if m.testBit k then renF m ns k ||| 2 ^ (ns.getD k 0) else renF m ns k) = renF m ns (k + 1) := by rw [renF]
    rw [hm] at ho
    rw [hge, huk, hux, hb, ho]
    refine ⟨by omega, hk, by omega, by omega, ?_⟩
    exact again_of (k + 1) (by refine ⟨?_, ?_, ?_, ?_, by omega⟩ <;> (first | (simp (maxSteps := 5000000) -dsimp only [gr, Nat.reduceEqDiff, Nat.reduceLT, Nat.reduceAdd, Nat.reduceMod, Nat.reduceBEq, sid_mod, sid_ne1, sid_ne2, sid_inj, h0a, h1a, h5a, h6a, wrap_nat hk (by omega)]; first | done | rfl | (simp; done)) | assumption | rfl)) (by first | omega | (simp only; omega) | (dsimp only; omega) | (show _ < _; simp; omega))
  · have : k = ns.length := by omega
    rw [this]
end Go.Proofs.Ytpnknaaehcljoaa

namespace Go.Proofs.Ytpnknaaehcljoaa
open Go.Abs
set_option linter.unusedSimpArgs false
set_option linter.unusedVariables false

theorem sameG_refl (n : Int) (xs : List Int) : sameG n xs n xs = true := by simp [sameG]
theorem c_slices_Clone (xs : List Int) (hx : xs.length ≤ 1048576) : AC Try.prog 179 [ints xs] (.fr 3 1 (iL xs)) := by
  refine AC.go (rs := [.tmp 2]) T_ok mixed Try.func179 rfl rfl rfl (by kernel_rfl) fun hl => ?_
  simp (maxSteps := 5000000) -dsimp only [↓gp, gq, reduceCtorEq, Nat.reduceEqDiff, Nat.reduceLT, Nat.reduceLeDiff, Nat.reduceAdd, Nat.reduceMul, Nat.reduceSub, Nat.reduceBEq, Int.reduceToNat, Int.reduceLE, Int.reduceLT, Int.reduceNeg, Nat.reduceMod, sid_ne1, sid_ne2, sid_inj, sid_mod, gT, TK.isInt, TK.agg, Array.toList]
  exact ⟨by omega, fun h => h.symm⟩
end Go.Proofs.Ytpnknaaehcljoaa
