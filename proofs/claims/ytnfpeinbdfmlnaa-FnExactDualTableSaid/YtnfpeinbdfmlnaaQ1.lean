/- DERIVED by an AI agent. -/
import Derived.Test.YtnfpeinbdfmlnaaB1
import Derived.Test.YtnfpeinbdfmlnaaP1
namespace Go.Proofs.Ytnfpeinbdfmlnaa
open Go.Abs
set_option linter.unusedSimpArgs false
set_option linter.unusedVariables false

theorem c_spec_l1In (a b c : Int) : AC Try.prog 59 [int a, int b, int c] (.im (bool (decide (b ≤ a) && decide (a ≤ c)))) := by
  refine AC.go (rs := [.tmp 6]) T_ok mixed Try.func59 rfl rfl rfl (by kernel_rfl) fun _ => ?_
  simp (maxSteps := 5000000) -dsimp only [↓gp, gq, reduceCtorEq, Nat.reduceEqDiff, Nat.reduceLT, Nat.reduceLeDiff, Nat.reduceAdd, Nat.reduceMul, Nat.reduceSub, Nat.reduceBEq, Int.reduceToNat, Int.reduceLE, Int.reduceLT, Int.reduceNeg, Nat.reduceMod, sid_ne1, sid_ne2, sid_inj, sid_mod, gT, TK.isInt, TK.agg, Array.toList]
  exact ⟨fun h => by simp [h], fun h => by simp [h]⟩
theorem c_laws_eqIntS (xs ys : List Int) : AC Try.prog 20 [ints xs, ints ys] (.im (bool (decide (xs = ys)))) := by
  refine AC.go (rs := [.tmp 4]) T_ok mixed Try.func20 rfl rfl rfl (by kernel_rfl) fun hl => ?_
  simp only [lens_cons, lens2_iL, lens_nil, and_true] at hl
  simp (maxSteps := 5000000) -dsimp only [↓gp, gq, reduceCtorEq, Nat.reduceEqDiff, Nat.reduceLT, Nat.reduceLeDiff, Nat.reduceAdd, Nat.reduceMul, Nat.reduceSub, Nat.reduceBEq, Int.reduceToNat, Int.reduceLE, Int.reduceLT, Int.reduceNeg, Nat.reduceMod, sid_ne1, sid_ne2, sid_inj, sid_mod, gT, TK.isInt, TK.agg, Array.toList]
  refine ⟨fun h => ?_, fun h => ?_⟩
  · intro e
    simp [e] at h
  · have hn : xs.length = ys.length := by simp at h; omega
    refine loop_of (fun (i : Nat) s => s.sl 0 = ints xs ∧ s.sl 1 = ints ys ∧ s.sl 5 = int i ∧ i ≤ xs.length ∧ xs.take i = ys.take i) (fun i => xs.length - i) 0 ⟨by simp (maxSteps := 5000000) -dsimp only [gr, Nat.reduceEqDiff, Nat.reduceLT, Nat.reduceAdd, Nat.reduceMod, Nat.reduceBEq, sid_mod, sid_ne1, sid_ne2, sid_inj], by simp (maxSteps := 5000000) -dsimp only [gr, Nat.reduceEqDiff, Nat.reduceLT, Nat.reduceAdd, Nat.reduceMod, Nat.reduceBEq, sid_mod, sid_ne1, sid_ne2, sid_inj], by simp (maxSteps := 5000000) -dsimp only [gr, Nat.reduceEqDiff, Nat.reduceLT, Nat.reduceAdd, Nat.reduceMod, Nat.reduceBEq, sid_mod, sid_ne1, sid_ne2, sid_inj]; rfl, by simp, by simp⟩ ?_
    intro i s1 ⟨h0, h1, h5, hi, hall⟩
    simp (maxSteps := 5000000) -dsimp only [↓gp, gq, reduceCtorEq, Nat.reduceEqDiff, Nat.reduceLT, Nat.reduceLeDiff, Nat.reduceAdd, Nat.reduceMul, Nat.reduceSub, Nat.reduceBEq, Int.reduceToNat, Int.reduceLE, Int.reduceLT, Int.reduceNeg, Nat.reduceMod, sid_ne1, sid_ne2, sid_inj, sid_mod, gT, TK.isInt, TK.agg, Array.toList, h0, h1, h5]
    refine ⟨fun h => ⟨by kernel_rfl, h, h, by omega, by omega, fun ha => ?_, fun ha => ?_⟩, fun h => ?_⟩
    · intro e
      simp [e] at ha
    · refine again_of (i + 1) ⟨by simp (maxSteps := 5000000) -dsimp only [gr, Nat.reduceEqDiff, Nat.reduceLT, Nat.reduceAdd, Nat.reduceMod, Nat.reduceBEq, sid_mod, sid_ne1, sid_ne2, sid_inj, h0], by simp (maxSteps := 5000000) -dsimp only [gr, Nat.reduceEqDiff, Nat.reduceLT, Nat.reduceAdd, Nat.reduceMod, Nat.reduceBEq, sid_mod, sid_ne1, sid_ne2, sid_inj, h1], by simp (maxSteps := 5000000) -dsimp only [gr, Nat.reduceEqDiff, Nat.reduceLT, Nat.reduceAdd, Nat.reduceMod, Nat.reduceBEq, sid_mod, sid_ne1, sid_ne2, sid_inj]; rw [wrap_nat h hl.1], h, ?_⟩ (by omega)
      rw [take_snoc 0 h, take_snoc 0 (show i < ys.length by omega), hall]
      simp at ha
      simpa using ha
    · rw [List.take_of_length_le (by omega), List.take_of_length_le (by omega)] at hall
      exact hall
theorem c_laws_toIntS (xs : List Int) (hx : xs.length ≤ 1048576) : AC Try.prog 70 [ints xs] (.fr 3 1 (iL xs)) := by
  refine AC.go (rs := [.tmp 2]) T_ok mixed Try.func70 rfl rfl rfl (by kernel_rfl) fun hl => ?_
  simp (maxSteps := 5000000) -dsimp only [↓gp, gq, reduceCtorEq, Nat.reduceEqDiff, Nat.reduceLT, Nat.reduceLeDiff, Nat.reduceAdd, Nat.reduceMul, Nat.reduceSub, Nat.reduceBEq, Int.reduceToNat, Int.reduceLE, Int.reduceLT, Int.reduceNeg, Nat.reduceMod, sid_ne1, sid_ne2, sid_inj, sid_mod, gT, TK.isInt, TK.agg, Array.toList]
  refine ⟨by omega, by omega, ?_⟩
  refine loop_of (fun (i : Nat) s => ∃ v, s.sl 0 = ints xs ∧ s.sl 3 = .own 7 v ∧ s.rw 7 = ⟨v, .sli 3 1 false (iL (xs.take i ++ List.replicate (xs.length - i) 0))⟩ ∧ s.sl 4 = int i ∧ i ≤ xs.length) (fun i => xs.length - i) 0 ⟨1, by simp (maxSteps := 5000000) -dsimp only [gr, Nat.reduceEqDiff, Nat.reduceLT, Nat.reduceAdd, Nat.reduceMod, Nat.reduceBEq, sid_mod, sid_ne1, sid_ne2, sid_inj], by simp (maxSteps := 5000000) -dsimp only [gr, Nat.reduceEqDiff, Nat.reduceLT, Nat.reduceAdd, Nat.reduceMod, Nat.reduceBEq, sid_mod, sid_ne1, sid_ne2, sid_inj], by simp (maxSteps := 5000000) -dsimp only [gr, Nat.reduceEqDiff, Nat.reduceLT, Nat.reduceAdd, Nat.reduceMod, Nat.reduceBEq, sid_mod, sid_ne1, sid_ne2, sid_inj]; simp, by simp (maxSteps := 5000000) -dsimp only [gr, Nat.reduceEqDiff, Nat.reduceLT, Nat.reduceAdd, Nat.reduceMod, Nat.reduceBEq, sid_mod, sid_ne1, sid_ne2, sid_inj]; rfl, by simp⟩ ?_
  intro i s1 ⟨v, h0, h3, h7, h4, hi⟩
  simp (maxSteps := 5000000) -dsimp only [↓gp, gq, reduceCtorEq, Nat.reduceEqDiff, Nat.reduceLT, Nat.reduceLeDiff, Nat.reduceAdd, Nat.reduceMul, Nat.reduceSub, Nat.reduceBEq, Int.reduceToNat, Int.reduceLE, Int.reduceLT, Int.reduceNeg, Nat.reduceMod, sid_ne1, sid_ne2, sid_inj, sid_mod, gT, TK.isInt, TK.agg, Array.toList, h0, h3, h7, h4]
  have hf := fill_length (xs := xs) (z := (0 : Int)) hi
  refine ⟨fun h => ⟨h, h, by omega, by omega, ?_⟩, fun h => ?_⟩
  · refine again_of (i + 1) ⟨v, by simp (maxSteps := 5000000) -dsimp only [gr, Nat.reduceEqDiff, Nat.reduceLT, Nat.reduceAdd, Nat.reduceMod, Nat.reduceBEq, sid_mod, sid_ne1, sid_ne2, sid_inj, h0], by simp (maxSteps := 5000000) -dsimp only [gr, Nat.reduceEqDiff, Nat.reduceLT, Nat.reduceAdd, Nat.reduceMod, Nat.reduceBEq, sid_mod, sid_ne1, sid_ne2, sid_inj, h3], by simp (maxSteps := 5000000) -dsimp only [gr, Nat.reduceEqDiff, Nat.reduceLT, Nat.reduceAdd, Nat.reduceMod, Nat.reduceBEq, sid_mod, sid_ne1, sid_ne2, sid_inj]; rw [set_fill 0 0 h], by simp (maxSteps := 5000000) -dsimp only [gr, Nat.reduceEqDiff, Nat.reduceLT, Nat.reduceAdd, Nat.reduceMod, Nat.reduceBEq, sid_mod, sid_ne1, sid_ne2, sid_inj]; rw [wrap_nat h (by omega)], h⟩ (by omega)
  · rw [List.take_of_length_le (by omega), show xs.length - i = 0 by omega]; simp
theorem c_laws_szIntS (xs : List Int) (n : Int) (h0 : 0 ≤ n) (h1 : n ≤ 1048576) : AC Try.prog 67 [ints xs, int n] (.im (int (if n - xs.length < 0 then -1 else n - xs.length))) := by
  refine AC.go (rs := [.tmp 4]) T_ok mixed Try.func67 rfl rfl rfl (by kernel_rfl) fun hl => ?_
  simp only [lens_cons, lens2_iL, lens_nil, and_true] at hl
  have hw : IntKind.i64.wrap (n - xs.length) = n - xs.length := wrap_id (by omega) (by have := hl.1; omega)
  simp (maxSteps := 5000000) -dsimp only [↓gp, gq, reduceCtorEq, Nat.reduceEqDiff, Nat.reduceLT, Nat.reduceLeDiff, Nat.reduceAdd, Nat.reduceMul, Nat.reduceSub, Nat.reduceBEq, Int.reduceToNat, Int.reduceLE, Int.reduceLT, Int.reduceNeg, Nat.reduceMod, sid_ne1, sid_ne2, sid_inj, sid_mod, gT, TK.isInt, TK.agg, Array.toList, hw]
  exact ⟨fun h => by simp [h], fun h => by simp [h]⟩
theorem c_laws_eqIntSS (xs ys : List (List Int)) : AC Try.prog 28 [int2 xs, int2 ys] (.im (bool (decide (xs = ys)))) := by
  refine AC.go (rs := [.tmp 4]) T_ok mixed Try.func28 rfl rfl rfl (by kernel_rfl) fun hl => ?_
  simp only [lens_cons, lens2_iLL, lens_nil, and_true] at hl
  simp (maxSteps := 5000000) -dsimp only [↓gp, gq, reduceCtorEq, Nat.reduceEqDiff, Nat.reduceLT, Nat.reduceLeDiff, Nat.reduceAdd, Nat.reduceMul, Nat.reduceSub, Nat.reduceBEq, Int.reduceToNat, Int.reduceLE, Int.reduceLT, Int.reduceNeg, Nat.reduceMod, sid_ne1, sid_ne2, sid_inj, sid_mod, gT, TK.isInt, TK.agg, Array.toList]
  refine ⟨fun h => ?_, fun h => ?_⟩
  · intro e
    simp [e] at h
  · have hn : xs.length = ys.length := by simp at h; omega
    refine loop_of (fun (i : Nat) s => s.sl 0 = int2 xs ∧ s.sl 1 = int2 ys ∧ s.sl 5 = int i ∧ i ≤ xs.length ∧ xs.take i = ys.take i) (fun i => xs.length - i) 0 ⟨by simp (maxSteps := 5000000) -dsimp only [gr, Nat.reduceEqDiff, Nat.reduceLT, Nat.reduceAdd, Nat.reduceMod, Nat.reduceBEq, sid_mod, sid_ne1, sid_ne2, sid_inj], by simp (maxSteps := 5000000) -dsimp only [gr, Nat.reduceEqDiff, Nat.reduceLT, Nat.reduceAdd, Nat.reduceMod, Nat.reduceBEq, sid_mod, sid_ne1, sid_ne2, sid_inj], by simp (maxSteps := 5000000) -dsimp only [gr, Nat.reduceEqDiff, Nat.reduceLT, Nat.reduceAdd, Nat.reduceMod, Nat.reduceBEq, sid_mod, sid_ne1, sid_ne2, sid_inj]; rfl, by simp, by simp⟩ ?_
    intro i s1 ⟨h0, h1, h5, hi, hall⟩
    simp (maxSteps := 5000000) -dsimp only [↓gp, gq, reduceCtorEq, Nat.reduceEqDiff, Nat.reduceLT, Nat.reduceLeDiff, Nat.reduceAdd, Nat.reduceMul, Nat.reduceSub, Nat.reduceBEq, Int.reduceToNat, Int.reduceLE, Int.reduceLT, Int.reduceNeg, Nat.reduceMod, sid_ne1, sid_ne2, sid_inj, sid_mod, gT, TK.isInt, TK.agg, Array.toList, h0, h1, h5]
    refine ⟨fun h => ⟨by kernel_rfl, h, h, by omega, by omega, askK_of (c_laws_eqIntS _ _) ?_⟩, fun h => ?_⟩
    · simp (maxSteps := 5000000) -dsimp only [↓gp, gq, reduceCtorEq, Nat.reduceEqDiff, Nat.reduceLT, Nat.reduceLeDiff, Nat.reduceAdd, Nat.reduceMul, Nat.reduceSub, Nat.reduceBEq, Int.reduceToNat, Int.reduceLE, Int.reduceLT, Int.reduceNeg, Nat.reduceMod, sid_ne1, sid_ne2, sid_inj, sid_mod, gT, TK.isInt, TK.agg, Array.toList, h0, h1, h5]
      refine ⟨fun ha => ?_, fun ha => ?_⟩
      · intro e
        simp [e] at ha
      · refine again_of (i + 1) ⟨by simp (maxSteps := 5000000) -dsimp only [gr, Nat.reduceEqDiff, Nat.reduceLT, Nat.reduceAdd, Nat.reduceMod, Nat.reduceBEq, sid_mod, sid_ne1, sid_ne2, sid_inj, h0], by simp (maxSteps := 5000000) -dsimp only [gr, Nat.reduceEqDiff, Nat.reduceLT, Nat.reduceAdd, Nat.reduceMod, Nat.reduceBEq, sid_mod, sid_ne1, sid_ne2, sid_inj, h1], by simp (maxSteps := 5000000) -dsimp only [gr, Nat.reduceEqDiff, Nat.reduceLT, Nat.reduceAdd, Nat.reduceMod, Nat.reduceBEq, sid_mod, sid_ne1, sid_ne2, sid_inj]; rw [wrap_nat h hl.1.1], h, ?_⟩ (by omega)
        rw [take_snoc [] h, take_snoc [] (show i < ys.length by omega), hall]
        simp at ha
        simpa using ha
    · rw [List.take_of_length_le (by omega), List.take_of_length_le (by omega)] at hall
      exact hall
def szI (n : Int) (k : Nat) : Int := if n - k < 0 then -1 else n - k
end Go.Proofs.Ytnfpeinbdfmlnaa

namespace Go.Proofs.Ytnfpeinbdfmlnaa
open Go.Abs
set_option linter.unusedSimpArgs false
set_option linter.unusedVariables false
theorem c_spec_l2Size (n : Nat) (h : n < 9223372036854775808) : AC Try.prog 66 [int n] (.im (int (popN n : Nat))) := by
  refine AC.go (rs := [.tmp 2]) T_ok mixed Try.func66 rfl rfl rfl (by kernel_rfl) fun hl => ?_
  simp (maxSteps := 5000000) -dsimp only [↓gp, gq, reduceCtorEq, Nat.reduceEqDiff, Nat.reduceLT, Nat.reduceLeDiff, Nat.reduceAdd, Nat.reduceMul, Nat.reduceSub, Nat.reduceBEq, Int.reduceToNat, Int.reduceLE, Int.reduceLT, Int.reduceNeg, Nat.reduceMod, sid_ne1, sid_ne2, sid_inj, sid_mod, gT, TK.isInt, TK.agg, Array.toList]
  refine loop_of (fun (x : Nat × Nat) s => s.sl 0 = int x.1 ∧ s.sl 3 = int x.2 ∧ x.1 ≤ n ∧ x.2 + popN x.1 = popN n) (fun x => x.1) (n, 0) ⟨by simp (maxSteps := 5000000) -dsimp only [gr, Nat.reduceEqDiff, Nat.reduceLT, Nat.reduceAdd, Nat.reduceMod, Nat.reduceBEq, sid_mod, sid_ne1, sid_ne2, sid_inj], by simp (maxSteps := 5000000) -dsimp only [gr, Nat.reduceEqDiff, Nat.reduceLT, Nat.reduceAdd, Nat.reduceMod, Nat.reduceBEq, sid_mod, sid_ne1, sid_ne2, sid_inj]; rfl, by simp, by simp⟩ ?_
  intro ⟨m, a⟩ s1 ⟨h0, h3, hm, hp⟩
  simp only at h0 h3 hm hp
  have hpl := popN_le n
  simp (maxSteps := 5000000) -dsimp only [↓gp, gq, reduceCtorEq, Nat.reduceEqDiff, Nat.reduceLT, Nat.reduceLeDiff, Nat.reduceAdd, Nat.reduceMul, Nat.reduceSub, Nat.reduceBEq, Int.reduceToNat, Int.reduceLE, Int.reduceLT, Int.reduceNeg, Nat.reduceMod, sid_ne1, sid_ne2, sid_inj, sid_mod, gT, TK.isInt, TK.agg, Array.toList, h0, h3, iand_one (show m < 9223372036854775808 by omega), ishr_one]
  refine ⟨fun h1 => ?_, fun h1 => ?_⟩
  · have hm0 : m ≠ 0 := by omega
    rw [popN_pos hm0] at hp
    refine again_of (m / 2, a + m % 2) ⟨by simp (maxSteps := 5000000) -dsimp only [gr, Nat.reduceEqDiff, Nat.reduceLT, Nat.reduceAdd, Nat.reduceMod, Nat.reduceBEq, sid_mod, sid_ne1, sid_ne2, sid_inj], ?_, by simp only; omega, by simp only; omega⟩ (by simp only; omega)
    simp (maxSteps := 5000000) -dsimp only [gr, Nat.reduceEqDiff, Nat.reduceLT, Nat.reduceAdd, Nat.reduceMod, Nat.reduceBEq, sid_mod, sid_ne1, sid_ne2, sid_inj]
    rw [wrap_id (by omega) (by omega)]
    rfl
  · have : m = 0 := by omega
    subst this
    rw [popN_zero] at hp
    omega
theorem c_spec_l2Sizei {s : Int} (h0 : 0 ≤ s) (h : s < 9223372036854775808) : AC Try.prog 66 [int s] (.im (int (popN s.toNat : Nat))) := by
  obtain ⟨m, rfl⟩ := Int.eq_ofNat_of_zero_le h0
  exact c_spec_l2Size m (by omega)
theorem c_bits_OnesCount64 (n : Nat) (h : n < 64) : AC Try.prog 172 [u64 n] (.im (int (popN n : Nat))) := by
  refine AC.go (rs := [.tmp 2]) T_ok mixed Try.func172 rfl rfl rfl (by kernel_rfl) fun hl => ?_
  simp (maxSteps := 5000000) -dsimp only [↓gp, gq, reduceCtorEq, Nat.reduceEqDiff, Nat.reduceLT, Nat.reduceLeDiff, Nat.reduceAdd, Nat.reduceMul, Nat.reduceSub, Nat.reduceBEq, Int.reduceToNat, Int.reduceLE, Int.reduceLT, Int.reduceNeg, Nat.reduceMod, sid_ne1, sid_ne2, sid_inj, sid_mod, gT, TK.isInt, TK.agg, Array.toList]
  rw [popN_6 h]
  clear hl
  obtain ⟨m, rfl⟩ : ∃ m : Fin 64, m.val = n := ⟨⟨n, h⟩, rfl⟩
  clear h
  revert m
  decide +kernel
theorem c_bits_OnesCount (n : Nat) (h : n < 64) : AC Try.prog 117 [u64 n] (.im (int (popN n : Nat))) := by
  refine AC.go (rs := [.tmp 2]) T_ok mixed Try.func117 rfl rfl rfl (by kernel_rfl) fun hl => ?_
  simp (maxSteps := 5000000) -dsimp only [↓gp, gq, reduceCtorEq, Nat.reduceEqDiff, Nat.reduceLT, Nat.reduceLeDiff, Nat.reduceAdd, Nat.reduceMul, Nat.reduceSub, Nat.reduceBEq, Int.reduceToNat, Int.reduceLE, Int.reduceLT, Int.reduceNeg, Nat.reduceMod, sid_ne1, sid_ne2, sid_inj, sid_mod, gT, TK.isInt, TK.agg, Array.toList]
  refine askK_of (c_bits_OnesCount64 n h) ?_
  simp (maxSteps := 5000000) -dsimp only [↓gp, gq, reduceCtorEq, Nat.reduceEqDiff, Nat.reduceLT, Nat.reduceLeDiff, Nat.reduceAdd, Nat.reduceMul, Nat.reduceSub, Nat.reduceBEq, Int.reduceToNat, Int.reduceLE, Int.reduceLT, Int.reduceNeg, Nat.reduceMod, sid_ne1, sid_ne2, sid_inj, sid_mod, gT, TK.isInt, TK.agg, Array.toList]
theorem c_impl_IsSet (n s : Int) : AC Try.prog 116 [int n, int s] (.im (bool (inSet n s))) := by
  refine AC.go (rs := [.tmp 4]) T_ok mixed Try.func116 rfl rfl rfl (by kernel_rfl) fun hl => ?_
  simp (maxSteps := 5000000) -dsimp only [↓gp, gq, reduceCtorEq, Nat.reduceEqDiff, Nat.reduceLT, Nat.reduceLeDiff, Nat.reduceAdd, Nat.reduceMul, Nat.reduceSub, Nat.reduceBEq, Int.reduceToNat, Int.reduceLE, Int.reduceLT, Int.reduceNeg, Nat.reduceMod, sid_ne1, sid_ne2, sid_inj, sid_mod, gT, TK.isInt, TK.agg, Array.toList, inSet]
  refine ⟨fun h0 => ⟨fun h6 => ⟨fun hs => ?_, fun hs => by omega⟩, fun h6 => by omega⟩, fun h0 => by omega⟩
  obtain ⟨m, rfl⟩ := Int.eq_ofNat_of_zero_le h0
  rw [uwrap_nat (by omega), ishl_small (by omega), pow_nat]
  exact ⟨by omega, by simp only [h0, h6, hs, true_and]⟩
theorem c_spec_IsSet (n s : Int) : AC Try.prog 149 [int n, int s] (.im (bool (inSet n s))) := by
  refine AC.go (rs := [.tmp 4]) T_ok mixed Try.func149 rfl rfl rfl (by kernel_rfl) fun hl => ?_
  simp (maxSteps := 5000000) -dsimp only [↓gp, gq, reduceCtorEq, Nat.reduceEqDiff, Nat.reduceLT, Nat.reduceLeDiff, Nat.reduceAdd, Nat.reduceMul, Nat.reduceSub, Nat.reduceBEq, Int.reduceToNat, Int.reduceLE, Int.reduceLT, Int.reduceNeg, Nat.reduceMod, sid_ne1, sid_ne2, sid_inj, sid_mod, gT, TK.isInt, TK.agg, Array.toList]
  refine askK_of (c_spec_l1In _ _ _) ?_
  simp (maxSteps := 5000000) -dsimp only [↓gp, gq, reduceCtorEq, Nat.reduceEqDiff, Nat.reduceLT, Nat.reduceLeDiff, Nat.reduceAdd, Nat.reduceMul, Nat.reduceSub, Nat.reduceBEq, Int.reduceToNat, Int.reduceLE, Int.reduceLT, Int.reduceNeg, Nat.reduceMod, sid_ne1, sid_ne2, sid_inj, sid_mod, gT, TK.isInt, TK.agg, Array.toList]
  refine ⟨fun h => ?_, fun h => ?_⟩
  · simp only [Bool.and_eq_true, decide_eq_true_eq] at h
    obtain ⟨h0, h6⟩ := h
    obtain ⟨m, rfl⟩ := Int.eq_ofNat_of_zero_le h0
    have hp := two_pow_le (m := m) (by omega)
    have e : inSet (m : Int) s = decide (0 ≤ s ∧ s < ((2 ^ m : Nat) : Int)) := by
      rw [inSet, pow_nat]
      simp only [h0, h6, true_and]
    rw [e, uwrap_nat (by omega), ishl_small (by omega)]
    generalize (2 ^ m : Nat) = q at hp
    rw [wrap_id (by omega) (by omega)]
    refine ⟨by omega, askK_of (c_spec_l1In _ _ _) ?_⟩
    simp (maxSteps := 5000000) -dsimp only [↓gp, gq, reduceCtorEq, Nat.reduceEqDiff, Nat.reduceLT, Nat.reduceLeDiff, Nat.reduceAdd, Nat.reduceMul, Nat.reduceSub, Nat.reduceBEq, Int.reduceToNat, Int.reduceLE, Int.reduceLT, Int.reduceNeg, Nat.reduceMod, sid_ne1, sid_ne2, sid_inj, sid_mod, gT, TK.isInt, TK.agg, Array.toList]
    rw [← Bool.decide_and]
    exact decide_eq_decide.2 (by omega)
  · refine decide_eq_false fun hh => ?_
    simp [hh.1, hh.2.1] at h
def szOf (s : Int) : Int := if 0 ≤ s ∧ s < 64 then (popN s.toNat : Nat) else -1
theorem inSet_6 (s : Int) : inSet 6 s = decide (0 ≤ s ∧ s < 64) := by
  simp [inSet]
theorem c_impl_SizeOf (s : Int) : AC Try.prog 76 [int s] (.im (int (szOf s))) := by
  refine AC.go (rs := [.tmp 2]) T_ok mixed Try.func76 rfl rfl rfl (by kernel_rfl) fun hl => ?_
  simp (maxSteps := 5000000) -dsimp only [↓gp, gq, reduceCtorEq, Nat.reduceEqDiff, Nat.reduceLT, Nat.reduceLeDiff, Nat.reduceAdd, Nat.reduceMul, Nat.reduceSub, Nat.reduceBEq, Int.reduceToNat, Int.reduceLE, Int.reduceLT, Int.reduceNeg, Nat.reduceMod, sid_ne1, sid_ne2, sid_inj, sid_mod, gT, TK.isInt, TK.agg, Array.toList]
  refine askK_of (c_impl_IsSet _ _) ?_
  simp (maxSteps := 5000000) -dsimp only [↓gp, gq, reduceCtorEq, Nat.reduceEqDiff, Nat.reduceLT, Nat.reduceLeDiff, Nat.reduceAdd, Nat.reduceMul, Nat.reduceSub, Nat.reduceBEq, Int.reduceToNat, Int.reduceLE, Int.reduceLT, Int.reduceNeg, Nat.reduceMod, sid_ne1, sid_ne2, sid_inj, sid_mod, gT, TK.isInt, TK.agg, Array.toList, inSet_6]
  refine ⟨fun h => ?_, fun h => ?_⟩
  · have h : ¬ (0 ≤ s ∧ s < 64) := by simp at h; omega
    rw [szOf, if_neg h]
  · have h : 0 ≤ s ∧ s < 64 := by simpa using h
    obtain ⟨m, rfl⟩ := Int.eq_ofNat_of_zero_le h.1
    rw [uwrap_nat (by omega)]
    refine askK_of (c_bits_OnesCount m (by omega)) ?_
    simp (maxSteps := 5000000) -dsimp only [↓gp, gq, reduceCtorEq, Nat.reduceEqDiff, Nat.reduceLT, Nat.reduceLeDiff, Nat.reduceAdd, Nat.reduceMul, Nat.reduceSub, Nat.reduceBEq, Int.reduceToNat, Int.reduceLE, Int.reduceLT, Int.reduceNeg, Nat.reduceMod, sid_ne1, sid_ne2, sid_inj, sid_mod, gT, TK.isInt, TK.agg, Array.toList]
    rw [szOf, if_pos h]; rfl
def befS (a b : Int) : Bool := decide (0 ≤ a ∧ a < 64) && (decide (0 ≤ b ∧ b < 64) && (if szOf a = szOf b then decide (a < b) else decide (szOf a < szOf b)))
theorem c_impl_BeforeSet (a b : Int) : AC Try.prog 170 [int a, int b] (.im (bool (befS a b))) := by
  refine AC.go (rs := [.tmp 4]) T_ok mixed Try.func170 rfl rfl rfl (by kernel_rfl) fun hl => ?_
  simp (maxSteps := 5000000) -dsimp only [↓gp, gq, reduceCtorEq, Nat.reduceEqDiff, Nat.reduceLT, Nat.reduceLeDiff, Nat.reduceAdd, Nat.reduceMul, Nat.reduceSub, Nat.reduceBEq, Int.reduceToNat, Int.reduceLE, Int.reduceLT, Int.reduceNeg, Nat.reduceMod, sid_ne1, sid_ne2, sid_inj, sid_mod, gT, TK.isInt, TK.agg, Array.toList]
  refine askK_of (c_impl_IsSet _ _) ?_
  simp (maxSteps := 5000000) -dsimp only [↓gp, gq, reduceCtorEq, Nat.reduceEqDiff, Nat.reduceLT, Nat.reduceLeDiff, Nat.reduceAdd, Nat.reduceMul, Nat.reduceSub, Nat.reduceBEq, Int.reduceToNat, Int.reduceLE, Int.reduceLT, Int.reduceNeg, Nat.reduceMod, sid_ne1, sid_ne2, sid_inj, sid_mod, gT, TK.isInt, TK.agg, Array.toList, inSet_6]
  unfold befS
  refine ⟨fun h => askK_of (c_impl_IsSet _ _) ?_, fun h => ?_⟩
  · have ha : decide (0 ≤ a ∧ a < 64) = true := by simpa using h
    simp (maxSteps := 5000000) -dsimp only [↓gp, gq, reduceCtorEq, Nat.reduceEqDiff, Nat.reduceLT, Nat.reduceLeDiff, Nat.reduceAdd, Nat.reduceMul, Nat.reduceSub, Nat.reduceBEq, Int.reduceToNat, Int.reduceLE, Int.reduceLT, Int.reduceNeg, Nat.reduceMod, sid_ne1, sid_ne2, sid_inj, sid_mod, gT, TK.isInt, TK.agg, Array.toList, inSet_6]
    rw [ha]
    refine ⟨fun hb => ?_, fun hb => ?_⟩
    · have hb : decide (0 ≤ b ∧ b < 64) = false := by rwa [Bool.not_eq_true'] at hb
      rw [hb]; rfl
    · have hb : decide (0 ≤ b ∧ b < 64) = true := by simpa using hb
      rw [hb]
      refine askK_of (c_impl_SizeOf a) ?_
      simp (maxSteps := 5000000) -dsimp only [↓gp, gq, reduceCtorEq, Nat.reduceEqDiff, Nat.reduceLT, Nat.reduceLeDiff, Nat.reduceAdd, Nat.reduceMul, Nat.reduceSub, Nat.reduceBEq, Int.reduceToNat, Int.reduceLE, Int.reduceLT, Int.reduceNeg, Nat.reduceMod, sid_ne1, sid_ne2, sid_inj, sid_mod, gT, TK.isInt, TK.agg, Array.toList]
      refine askK_of (c_impl_SizeOf b) ?_
      simp (maxSteps := 5000000) -dsimp only [↓gp, gq, reduceCtorEq, Nat.reduceEqDiff, Nat.reduceLT, Nat.reduceLeDiff, Nat.reduceAdd, Nat.reduceMul, Nat.reduceSub, Nat.reduceBEq, Int.reduceToNat, Int.reduceLE, Int.reduceLT, Int.reduceNeg, Nat.reduceMod, sid_ne1, sid_ne2, sid_inj, sid_mod, gT, TK.isInt, TK.agg, Array.toList]
      refine ⟨fun hs => askK_of (c_impl_SizeOf a) ?_, fun hs => ?_⟩
      · simp (maxSteps := 5000000) -dsimp only [↓gp, gq, reduceCtorEq, Nat.reduceEqDiff, Nat.reduceLT, Nat.reduceLeDiff, Nat.reduceAdd, Nat.reduceMul, Nat.reduceSub, Nat.reduceBEq, Int.reduceToNat, Int.reduceLE, Int.reduceLT, Int.reduceNeg, Nat.reduceMod, sid_ne1, sid_ne2, sid_inj, sid_mod, gT, TK.isInt, TK.agg, Array.toList]
        refine askK_of (c_impl_SizeOf b) ?_
        simp (maxSteps := 5000000) -dsimp only [↓gp, gq, reduceCtorEq, Nat.reduceEqDiff, Nat.reduceLT, Nat.reduceLeDiff, Nat.reduceAdd, Nat.reduceMul, Nat.reduceSub, Nat.reduceBEq, Int.reduceToNat, Int.reduceLE, Int.reduceLT, Int.reduceNeg, Nat.reduceMod, sid_ne1, sid_ne2, sid_inj, sid_mod, gT, TK.isInt, TK.agg, Array.toList]
        have hs : ¬ szOf a = szOf b := by simpa using hs
        rw [if_neg hs]
      · have hs : szOf a = szOf b := by simpa using hs
        rw [if_pos hs]
  · have ha : decide (0 ≤ a ∧ a < 64) = false := by rwa [Bool.not_eq_true'] at h
    rw [ha]; rfl
end Go.Proofs.Ytnfpeinbdfmlnaa

namespace Go.Proofs.Ytnfpeinbdfmlnaa
open Go.Abs
set_option linter.unusedSimpArgs false
set_option linter.unusedVariables false
end Go.Proofs.Ytnfpeinbdfmlnaa

namespace Go.Proofs.Ytnfpeinbdfmlnaa
open Go.Abs
set_option linter.unusedSimpArgs false
set_option linter.unusedVariables false
theorem szI_le {n : Int} {k : Nat} (h1 : n ≤ 1048576) (h : ¬ szI n k < 0) : 0 ≤ szI n k ∧ szI n k ≤ 1048576 ∧ k ≤ 1048576 := by
  unfold szI at h ⊢
  split at h
  · simp at h
  · rename_i h2
    rw [if_neg h2]
    omega
/-- Two numbered lists are one. -/
def sameG (n : Int) (xs : List Int) (m : Int) (ys : List Int) : Bool := n == m && decide (xs = ys)
end Go.Proofs.Ytnfpeinbdfmlnaa

namespace Go.Proofs.Ytnfpeinbdfmlnaa
open Go.Abs
set_option linter.unusedSimpArgs false
set_option linter.unusedVariables false

theorem c_impl_hasSet (F s : Nat) (hF : F < 18446744073709551616) (hs : s < 64) : AC Try.prog 128 [u64 F, int s] (.im (bool (F.testBit s))) := by
  refine AC.go (rs := [.tmp 4]) T_ok mixed Try.func128 rfl rfl rfl (by kernel_rfl) fun hl => ?_
  have hw : IntKind.u64.wrap (s : Int) = (s : Int) := uwrap_id (by omega)
  simp (maxSteps := 5000000) -dsimp only [↓gp, gq, reduceCtorEq, Nat.reduceEqDiff, Nat.reduceLT, Nat.reduceLeDiff, Nat.reduceAdd, Nat.reduceMul, Nat.reduceSub, Nat.reduceBEq, Int.reduceToNat, Int.reduceLE, Int.reduceLT, Int.reduceNeg, Nat.reduceMod, sid_ne1, sid_ne2, sid_inj, sid_mod, gT, TK.isInt, TK.agg, Array.toList, hw, bit_test hF hs]
/-- A loop's numbers. -/
theorem c_impl_setsIn (F : Nat) (hF : F < 18446744073709551616) : AC Try.prog 88 [u64 F] (.fr 3 1 (iL (ofN (ordN F.testBit)))) := by
  refine AC.go (rs := [.tmp 2]) T_ok mixed Try.func88 rfl rfl rfl (by kernel_rfl) fun hl => ?_
  simp (maxSteps := 5000000) -dsimp only [↓gp, gq, reduceCtorEq, Nat.reduceEqDiff, Nat.reduceLT, Nat.reduceLeDiff, Nat.reduceAdd, Nat.reduceMul, Nat.reduceSub, Nat.reduceBEq, Int.reduceToNat, Int.reduceLE, Int.reduceLT, Int.reduceNeg, Nat.reduceMod, sid_ne1, sid_ne2, sid_inj, sid_mod, gT, TK.isInt, TK.agg, Array.toList]
  refine loop_of (fun (za : Nat × Nat) s => match za with | (k, v) => s.sl 0 = u64 F ∧ s.sl 3 = .own 3 v ∧ s.rw 3 = ⟨v, .sli 3 1 false (iL (ofN (ordP F.testBit k 0)))⟩ ∧ s.sl 4 = int k ∧ (k ≤ 7)) (fun (k, v) => 7 - k) ((0, 1)) (by refine ⟨?_, ?_, ?_, ?_, by simp⟩ <;> (first | (simp (maxSteps := 5000000) -dsimp only [gr, Nat.reduceEqDiff, Nat.reduceLT, Nat.reduceAdd, Nat.reduceMod, Nat.reduceBEq, sid_mod, sid_ne1, sid_ne2, sid_inj]; first | done | rfl | (simp; done)) | assumption | rfl)) ?_
  intro (k, v) sa ⟨h0a, h3a, r3a, h4a, hIa⟩
  simp (maxSteps := 5000000) -dsimp only [↓gp, gq, reduceCtorEq, Nat.reduceEqDiff, Nat.reduceLT, Nat.reduceLeDiff, Nat.reduceAdd, Nat.reduceMul, Nat.reduceSub, Nat.reduceBEq, Int.reduceToNat, Int.reduceLE, Int.reduceLT, Int.reduceNeg, Nat.reduceMod, sid_ne1, sid_ne2, sid_inj, sid_mod, gT, TK.isInt, TK.agg, Array.toList, h0a, h3a, r3a, h4a]
  refine ⟨fun hk => ?_, fun hk => ?_⟩
  · refine loop_of (fun (zb : Nat × Nat) s => match zb with | (m, v) => s.sl 0 = u64 F ∧ s.sl 3 = .own 3 v ∧ s.rw 3 = ⟨v, .sli 3 1 false (iL (ofN (ordP F.testBit k m)))⟩ ∧ s.sl 4 = int k ∧ s.sl 5 = int m ∧ (m ≤ 64)) (fun (m, v) => 64 - m) ((0, v)) (by refine ⟨?_, ?_, ?_, ?_, ?_, by simp⟩ <;> (first | (simp (maxSteps := 5000000) -dsimp only [gr, Nat.reduceEqDiff, Nat.reduceLT, Nat.reduceAdd, Nat.reduceMod, Nat.reduceBEq, sid_mod, sid_ne1, sid_ne2, sid_inj, h0a, h3a, r3a, h4a]; first | done | rfl | (simp; done)) | assumption | rfl)) ?_
    intro (m, v) sb ⟨h0b, h3b, r3b, h4b, h5b, hIb⟩
    simp (maxSteps := 5000000) -dsimp only [↓gp, gq, reduceCtorEq, Nat.reduceEqDiff, Nat.reduceLT, Nat.reduceLeDiff, Nat.reduceAdd, Nat.reduceMul, Nat.reduceSub, Nat.reduceBEq, Int.reduceToNat, Int.reduceLE, Int.reduceLT, Int.reduceNeg, Nat.reduceMod, sid_ne1, sid_ne2, sid_inj, sid_mod, gT, TK.isInt, TK.agg, Array.toList, h0b, h3b, r3b, h4b, h5b]
    refine ⟨fun hm => ?_, fun hm => ?_⟩
    · have hm : m < 64 := by omega
      refine askK_of (c_impl_hasSet F m hF hm) ?_
      simp (maxSteps := 5000000) -dsimp only [↓gp, gq, reduceCtorEq, Nat.reduceEqDiff, Nat.reduceLT, Nat.reduceLeDiff, Nat.reduceAdd, Nat.reduceMul, Nat.reduceSub, Nat.reduceBEq, Int.reduceToNat, Int.reduceLE, Int.reduceLT, Int.reduceNeg, Nat.reduceMod, sid_ne1, sid_ne2, sid_inj, sid_mod, gT, TK.isInt, TK.agg, Array.toList, h0b, h3b, r3b, h4b, h5b]
      have hlen := ordP_len F.testBit k m
      have hz : szOf (m : Int) = (popN m : Nat) := by rw [szOf, if_pos (by omega)]; simp
      refine ⟨fun hf => askK_of (c_impl_SizeOf _) ?_, fun hf => ?_⟩
      · simp (maxSteps := 5000000) -dsimp only [↓gp, gq, reduceCtorEq, Nat.reduceEqDiff, Nat.reduceLT, Nat.reduceLeDiff, Nat.reduceAdd, Nat.reduceMul, Nat.reduceSub, Nat.reduceBEq, Int.reduceToNat, Int.reduceLE, Int.reduceLT, Int.reduceNeg, Nat.reduceMod, sid_ne1, sid_ne2, sid_inj, sid_mod, gT, TK.isInt, TK.agg, Array.toList, h0b, h3b, r3b, h4b, h5b, hz]
        refine ⟨fun hp => ?_, fun hp => ?_⟩
        · have hy : ordP F.testBit k (m + 1) = ordP F.testBit k m ++ [m] := ordP_yes (by rw [hf]; simp at hp ⊢; omega)
          refine ⟨by rw [ofN_length]; omega, ?_⟩
          exact again_of ((m + 1, v + 1)) (by refine ⟨?_, ?_, ?_, ?_, ?_, by omega⟩ <;> (first | (simp (maxSteps := 5000000) -dsimp only [gr, Nat.reduceEqDiff, Nat.reduceLT, Nat.reduceAdd, Nat.reduceMod, Nat.reduceBEq, sid_mod, sid_ne1, sid_ne2, sid_inj, h0b, h3b, r3b, h4b, h5b, wrap_nat hm (by omega), hy, ofN_append, ofN_one]; first | done | rfl | (simp; done)) | assumption | rfl)) (by first | omega | (simp only; omega) | (dsimp only; omega) | (show _ < _; simp; omega))
        · have hy : ordP F.testBit k (m + 1) = ordP F.testBit k m := ordP_no (by rw [hf]; simp at hp ⊢; omega)
          exact again_of ((m + 1, v)) (by refine ⟨?_, ?_, ?_, ?_, ?_, by omega⟩ <;> (first | (simp (maxSteps := 5000000) -dsimp only [gr, Nat.reduceEqDiff, Nat.reduceLT, Nat.reduceAdd, Nat.reduceMod, Nat.reduceBEq, sid_mod, sid_ne1, sid_ne2, sid_inj, h0b, h3b, r3b, h4b, h5b, wrap_nat hm (by omega), hy]; first | done | rfl | (simp; done)) | assumption | rfl)) (by first | omega | (simp only; omega) | (dsimp only; omega) | (show _ < _; simp; omega))
      · have hy : ordP F.testBit k (m + 1) = ordP F.testBit k m := ordP_no (by rw [hf]; rfl)
        exact again_of ((m + 1, v)) (by refine ⟨?_, ?_, ?_, ?_, ?_, by omega⟩ <;> (first | (simp (maxSteps := 5000000) -dsimp only [gr, Nat.reduceEqDiff, Nat.reduceLT, Nat.reduceAdd, Nat.reduceMod, Nat.reduceBEq, sid_mod, sid_ne1, sid_ne2, sid_inj, h0b, h3b, r3b, h4b, h5b, wrap_nat hm (by omega), hy]; first | done | rfl | (simp; done)) | assumption | rfl)) (by first | omega | (simp only; omega) | (dsimp only; omega) | (show _ < _; simp; omega))
    · have : m = 64 := by omega
      subst this
      have hk : k < 7 := by omega
      exact again_of ((k + 1, v)) (by refine ⟨?_, ?_, ?_, ?_, by omega⟩ <;> (first | (simp (maxSteps := 5000000) -dsimp only [gr, Nat.reduceEqDiff, Nat.reduceLT, Nat.reduceAdd, Nat.reduceMod, Nat.reduceBEq, sid_mod, sid_ne1, sid_ne2, sid_inj, h0a, h3a, r3a, h4a, h0b, h3b, r3b, h4b, h5b, wrap_nat hk (by omega), ordP_next]; first | done | rfl | (simp; done)) | assumption | rfl)) (by first | omega | (simp only; omega) | (dsimp only; omega) | (show _ < _; simp; omega))
  · have : k = 7 := by omega
    subst this
    rw [ordP_all]
theorem c_impl_pickSets (n : Nat) (hn : n ≤ 6) (g : FuncId) (caps : List PV) (w : Nat → Bool) (hcap : ∀ rw, caps.map (lend rw 3) = caps) (hw : ∀ s : Nat, s < 2 ^ n → AC Try.prog g (int s :: caps) (.im (bool (w s)))) :
    AC Try.prog 126 [int n, .clo g caps] (.im (u64 (maskF w (2 ^ n) : Nat))) := by
  refine AC.go (rs := [.tmp 4]) T_ok mixed Try.func126 rfl rfl rfl (by kernel_rfl) fun hl => ?_
  have h64 := two_pow_le hn
  have hsh : ishl .i64 1 (n : Int) = ((2 ^ n : Nat) : Int) := ishl_small hn
  have hun : IntKind.u64.wrap (n : Int) = (n : Int) := uwrap_id (by omega)
  simp (maxSteps := 5000000) -dsimp only [↓gp, gq, reduceCtorEq, Nat.reduceEqDiff, Nat.reduceLT, Nat.reduceLeDiff, Nat.reduceAdd, Nat.reduceMul, Nat.reduceSub, Nat.reduceBEq, Int.reduceToNat, Int.reduceLE, Int.reduceLT, Int.reduceNeg, Nat.reduceMod, sid_ne1, sid_ne2, sid_inj, sid_mod, gT, TK.isInt, TK.agg, Array.toList]
  refine loop_of (fun (k : Nat) s => s.sl 0 = int n ∧ s.sl 1 = .clo g caps ∧ s.sl 5 = u64 (maskF w k : Nat) ∧ s.sl 6 = int k ∧ (k ≤ 2 ^ n)) (fun k => 2 ^ n - k) (0) (by refine ⟨?_, ?_, ?_, ?_, by simp⟩ <;> (first | (simp (maxSteps := 5000000) -dsimp only [gr, Nat.reduceEqDiff, Nat.reduceLT, Nat.reduceAdd, Nat.reduceMod, Nat.reduceBEq, sid_mod, sid_ne1, sid_ne2, sid_inj]; first | done | rfl | (simp; done)) | assumption | rfl)) ?_
  intro k sa ⟨h0a, h1a, h5a, h6a, hIa⟩
  have hlt := maskF_lt w k
  have h2k : (2 : Nat) ^ k ≤ 2 ^ 64 := Nat.pow_le_pow_right (by omega) (by omega)
  simp (maxSteps := 5000000) -dsimp only [↓gp, gq, reduceCtorEq, Nat.reduceEqDiff, Nat.reduceLT, Nat.reduceLeDiff, Nat.reduceAdd, Nat.reduceMul, Nat.reduceSub, Nat.reduceBEq, Int.reduceToNat, Int.reduceLE, Int.reduceLT, Int.reduceNeg, Nat.reduceMod, sid_ne1, sid_ne2, sid_inj, sid_mod, gT, TK.isInt, TK.agg, Array.toList, h0a, h1a, h5a, h6a, hun, hsh, hcap]
  refine ⟨fun hk => askK_of (hw k hk) ?_, fun hk => ?_⟩
  · have huk : IntKind.u64.wrap (k : Int) = (k : Int) := uwrap_id (by omega)
    have h2s : (2 : Nat) ^ k < 18446744073709551616 := by
      have : (2 : Nat) ^ k < 2 ^ 64 := Nat.pow_lt_pow_right (by omega) (by omega)
      omega
    have hor : ior .u64 (maskF w k : Nat) (ishl .u64 1 (k : Int)) = ((maskF w k ||| 2 ^ k : Nat) : Int) := by
      rw [ishl_u (by omega), ior_u (by omega) h2s]
    simp (maxSteps := 5000000) -dsimp only [↓gp, gq, reduceCtorEq, Nat.reduceEqDiff, Nat.reduceLT, Nat.reduceLeDiff, Nat.reduceAdd, Nat.reduceMul, Nat.reduceSub, Nat.reduceBEq, Int.reduceToNat, Int.reduceLE, Int.reduceLT, Int.reduceNeg, Nat.reduceMod, sid_ne1, sid_ne2, sid_inj, sid_mod, gT, TK.isInt, TK.agg, Array.toList, h0a, h1a, h5a, h6a, hun, hsh, huk, hor]
    refine ⟨fun hf => ?_, fun hf => ?_⟩
    · have hm : maskF w (k + 1) = maskF w k ||| 2 ^ k := by rw [maskF, if_pos hf]
      exact again_of (k + 1) (by refine ⟨?_, ?_, ?_, ?_, by omega⟩ <;> (first | (simp (maxSteps := 5000000) -dsimp only [gr, Nat.reduceEqDiff, Nat.reduceLT, Nat.reduceAdd, Nat.reduceMod, Nat.reduceBEq, sid_mod, sid_ne1, sid_ne2, sid_inj, h0a, h1a, h5a, h6a, wrap_nat hk (by omega), huk, hor, hm]; first | done | rfl | (simp; done)) | assumption | rfl)) (by first | omega | (simp only; omega) | (dsimp only; omega) | (show _ < _; simp; omega))
    · have hm : maskF w (k + 1) = maskF w k := by rw [maskF, if_neg (by rw [hf]; decide)]
      exact again_of (k + 1) (by refine ⟨?_, ?_, ?_, ?_, by omega⟩ <;> (first | (simp (maxSteps := 5000000) -dsimp only [gr, Nat.reduceEqDiff, Nat.reduceLT, Nat.reduceAdd, Nat.reduceMod, Nat.reduceBEq, sid_mod, sid_ne1, sid_ne2, sid_inj, h0a, h1a, h5a, h6a, wrap_nat hk (by omega), hm]; first | done | rfl | (simp; done)) | assumption | rfl)) (by first | omega | (simp only; omega) | (dsimp only; omega) | (show _ < _; simp; omega))
  · have : k = 2 ^ n := by omega
    rw [this]
theorem filt_yes {l : List Nat} {p : Nat → Bool} {k : Nat} (h : k < l.length) (hp : p (l.getD k 0) = true) : (l.take (k + 1)).filter p = (l.take k).filter p ++ [l.getD k 0] := by
  rw [take_snoc 0 h, List.filter_append]; simp only [List.filter_cons, hp, if_true, List.filter_nil]
theorem filt_no {l : List Nat} {p : Nat → Bool} {k : Nat} (h : k < l.length) (hp : p (l.getD k 0) = false) : (l.take (k + 1)).filter p = (l.take k).filter p := by
  rw [take_snoc 0 h, List.filter_append]; simp only [List.filter_cons, hp, Bool.false_eq_true, if_false, List.filter_nil, List.append_nil]
theorem filt_len {l : List Nat} {p : Nat → Bool} : (l.filter p).length ≤ l.length := List.length_filter_le _ _
/-- A list of sets as a family. -/
noncomputable def inF (xs : List Int) (s : Nat) : Bool := decide ((s : Int) ∈ xs)
noncomputable def hasRow (xs : List Int) (k : Nat) : List Bool := (List.range 64).map fun s => inF (xs.take k) s
theorem hasRow_length (xs : List Int) (k : Nat) : (hasRow xs k).length = 64 := by simp [hasRow]
theorem hasRow_zero (xs : List Int) : List.replicate 64 false = hasRow xs 0 := by
  refine List.ext_getElem (by simp [hasRow]) fun j h1 h2 => ?_
  rw [List.getElem_replicate]
  simp [hasRow, inF]
theorem hasRow_set {xs : List Int} {k : Nat} (h : k < xs.length) (hx : 0 ≤ xs.getD k 0 ∧ xs.getD k 0 < 64) : (hasRow xs k).set (xs.getD k 0).toNat true = hasRow xs (k + 1) := by
  refine List.ext_getElem (by simp [hasRow]) fun j h1 h2 => ?_
  simp only [hasRow, List.getElem_set, List.getElem_map, List.getElem_range]
  have e : inF (xs.take (k + 1)) j = (inF (xs.take k) j || decide ((j : Int) = xs.getD k 0)) := by
    unfold inF
    rw [take_snoc 0 h, ← Bool.decide_or]
    exact decide_eq_decide.2 (by simp only [List.mem_append, List.mem_singleton])
  rw [e]
  by_cases hj : (xs.getD k 0).toNat = j
  · rw [if_pos hj]
    have : (j : Int) = xs.getD k 0 := by omega
    simp only [this, decide_true, Bool.or_true]
  · rw [if_neg hj]
    have : ¬ (j : Int) = xs.getD k 0 := by omega
    simp only [this, decide_false, Bool.or_false]
theorem c_spec_l2Order (xs : List Int) (hx : ∀ x ∈ xs, 0 ≤ x ∧ x < 64) : AC Try.prog 122 [ints xs] (.fr 3 1 (iL (ofN (ordN (inF xs))))) := by
  refine AC.go (rs := [.tmp 2]) T_ok mixed Try.func122 rfl rfl rfl (by kernel_rfl) fun hl => ?_
  simp only [lens_cons, lens_nil, and_true, lens2_v, lens2_iL, true_and] at hl
  simp (maxSteps := 5000000) -dsimp only [↓gp, gq, reduceCtorEq, Nat.reduceEqDiff, Nat.reduceLT, Nat.reduceLeDiff, Nat.reduceAdd, Nat.reduceMul, Nat.reduceSub, Nat.reduceBEq, Int.reduceToNat, Int.reduceLE, Int.reduceLT, Int.reduceNeg, Nat.reduceMod, sid_ne1, sid_ne2, sid_inj, sid_mod, gT, TK.isInt, TK.agg, Array.toList]
  refine ⟨by decide, ?_⟩
  refine loop_of (fun (za : Nat × Nat) s => match za with | (k, v) => s.sl 0 = ints xs ∧ s.sl 3 = .own 8 v ∧ s.rw 8 = ⟨v, .sli 4 1 false (bL (hasRow xs k))⟩ ∧ s.sl 4 = int k ∧ (k ≤ xs.length)) (fun (k, v) => xs.length - k) ((0, 1)) (by refine ⟨?_, ?_, ?_, ?_, by simp⟩ <;> (first | (simp (maxSteps := 5000000) -dsimp only [gr, Nat.reduceEqDiff, Nat.reduceLT, Nat.reduceAdd, Nat.reduceMod, Nat.reduceBEq, sid_mod, sid_ne1, sid_ne2, sid_inj, bL_replicate, hasRow_zero, Int.reduceToNat]; first | done | rfl | (simp; done)) | assumption | rfl)) ?_
  intro (k, v) sa ⟨h0a, h3a, r8a, h4a, hIa⟩
  simp (maxSteps := 5000000) -dsimp only [↓gp, gq, reduceCtorEq, Nat.reduceEqDiff, Nat.reduceLT, Nat.reduceLeDiff, Nat.reduceAdd, Nat.reduceMul, Nat.reduceSub, Nat.reduceBEq, Int.reduceToNat, Int.reduceLE, Int.reduceLT, Int.reduceNeg, Nat.reduceMod, sid_ne1, sid_ne2, sid_inj, sid_mod, gT, TK.isInt, TK.agg, Array.toList, h0a, h3a, r8a, h4a, hasRow_length]
  refine ⟨fun hk => ?_, fun hk => ?_⟩
  · have hx1 := hx _ (getD_mem 0 hk)
    refine ⟨hk, hk, by omega, by omega, by omega, ?_⟩
    exact again_of ((k + 1, v)) (by refine ⟨?_, ?_, ?_, ?_, by omega⟩ <;> (first | (simp (maxSteps := 5000000) -dsimp only [gr, Nat.reduceEqDiff, Nat.reduceLT, Nat.reduceAdd, Nat.reduceMod, Nat.reduceBEq, sid_mod, sid_ne1, sid_ne2, sid_inj, h0a, h3a, r8a, h4a, wrap_nat hk hl, hasRow_set hk hx1]; first | done | rfl | (simp; done)) | assumption | rfl)) (by first | omega | (simp only; omega) | (dsimp only; omega) | (show _ < _; simp; omega))
  · have : k = xs.length := by omega
    subst this
    have hall : ∀ s, s < 64 → (hasRow xs xs.length).getD s false = inF xs s := fun s hs => by
      rw [getD_at false (by rw [hasRow_length]; exact hs)]
      simp [hasRow]
    have hrl := hasRow_length xs xs.length
    generalize hasRow xs xs.length = row at *
    refine loop_of (fun (zb : Nat × Nat × Nat) s => match zb with | (k, v, u) => s.sl 3 = .own 8 u ∧ s.rw 8 = ⟨u, .sli 4 1 false (bL row)⟩ ∧ s.sl 5 = .own 21 v ∧ s.rw 21 = ⟨v, .sli 3 1 false (iL (ofN (ordP (inF xs) k 0)))⟩ ∧ s.sl 6 = int k ∧ (k ≤ 7)) (fun (k, v, u) => 7 - k) ((0, (sa.rw 21).ver + 1, v)) (by refine ⟨?_, ?_, ?_, ?_, ?_, by simp⟩ <;> (first | (simp (maxSteps := 5000000) -dsimp only [gr, Nat.reduceEqDiff, Nat.reduceLT, Nat.reduceAdd, Nat.reduceMod, Nat.reduceBEq, sid_mod, sid_ne1, sid_ne2, sid_inj, h0a, h3a, r8a, h4a]; first | done | rfl | (simp; done)) | assumption | rfl)) ?_
    intro (k, v, u) sb ⟨h3b, r8b, h5b, r21b, h6b, hIb⟩
    simp (maxSteps := 5000000) -dsimp only [↓gp, gq, reduceCtorEq, Nat.reduceEqDiff, Nat.reduceLT, Nat.reduceLeDiff, Nat.reduceAdd, Nat.reduceMul, Nat.reduceSub, Nat.reduceBEq, Int.reduceToNat, Int.reduceLE, Int.reduceLT, Int.reduceNeg, Nat.reduceMod, sid_ne1, sid_ne2, sid_inj, sid_mod, gT, TK.isInt, TK.agg, Array.toList, h3b, r8b, h5b, r21b, h6b]
    refine ⟨fun hk => ?_, fun hk => ?_⟩
    · refine loop_of (fun (zc : Nat × Nat) s => match zc with | (m, v) => s.sl 3 = .own 8 u ∧ s.rw 8 = ⟨u, .sli 4 1 false (bL row)⟩ ∧ s.sl 5 = .own 21 v ∧ s.rw 21 = ⟨v, .sli 3 1 false (iL (ofN (ordP (inF xs) k m)))⟩ ∧ s.sl 6 = int k ∧ s.sl 7 = int m ∧ (m ≤ 64)) (fun (m, v) => 64 - m) ((0, v)) (by refine ⟨?_, ?_, ?_, ?_, ?_, ?_, by simp⟩ <;> (first | (simp (maxSteps := 5000000) -dsimp only [gr, Nat.reduceEqDiff, Nat.reduceLT, Nat.reduceAdd, Nat.reduceMod, Nat.reduceBEq, sid_mod, sid_ne1, sid_ne2, sid_inj, h3b, r8b, h5b, r21b, h6b]; first | done | rfl | (simp; done)) | assumption | rfl)) ?_
      intro (m, v) sc ⟨h3c, r8c, h5c, r21c, h6c, h7c, hIc⟩
      simp (maxSteps := 5000000) -dsimp only [↓gp, gq, reduceCtorEq, Nat.reduceEqDiff, Nat.reduceLT, Nat.reduceLeDiff, Nat.reduceAdd, Nat.reduceMul, Nat.reduceSub, Nat.reduceBEq, Int.reduceToNat, Int.reduceLE, Int.reduceLT, Int.reduceNeg, Nat.reduceMod, sid_ne1, sid_ne2, sid_inj, sid_mod, gT, TK.isInt, TK.agg, Array.toList, h3c, r8c, h5c, r21c, h6c, h7c, hrl]
      have hlen := ordP_len (inF xs) k m
      refine ⟨fun hm => ⟨by omega, by omega, ?_⟩, fun hm => ?_⟩
      · have hm : m < 64 := by omega
        rw [hall m hm]
        refine ⟨fun hf => askK_of (c_spec_l2Sizei (by omega) (by omega)) ?_, fun hf => ?_⟩
        · simp (maxSteps := 5000000) -dsimp only [↓gp, gq, reduceCtorEq, Nat.reduceEqDiff, Nat.reduceLT, Nat.reduceLeDiff, Nat.reduceAdd, Nat.reduceMul, Nat.reduceSub, Nat.reduceBEq, Int.reduceToNat, Int.reduceLE, Int.reduceLT, Int.reduceNeg, Nat.reduceMod, sid_ne1, sid_ne2, sid_inj, sid_mod, gT, TK.isInt, TK.agg, Array.toList, h3c, r8c, h5c, r21c, h6c, h7c, Int.toNat_natCast]
          refine ⟨fun hp => ?_, fun hp => ?_⟩
          · have hy : ordP (inF xs) k (m + 1) = ordP (inF xs) k m ++ [m] := ordP_yes (by rw [hf]; simp at hp ⊢; omega)
            refine ⟨by rw [ofN_length]; omega, ?_⟩
            exact again_of ((m + 1, v + 1)) (by refine ⟨?_, ?_, ?_, ?_, ?_, ?_, by omega⟩ <;> (first | (simp (maxSteps := 5000000) -dsimp only [gr, Nat.reduceEqDiff, Nat.reduceLT, Nat.reduceAdd, Nat.reduceMod, Nat.reduceBEq, sid_mod, sid_ne1, sid_ne2, sid_inj, h3c, r8c, h5c, r21c, h6c, h7c, wrap_nat hm (by omega), hy, ofN_append, ofN_one]; first | done | rfl | (simp; done)) | assumption | rfl)) (by first | omega | (simp only; omega) | (dsimp only; omega) | (show _ < _; simp; omega))
          · have hy : ordP (inF xs) k (m + 1) = ordP (inF xs) k m := ordP_no (by rw [hf]; simp at hp ⊢; omega)
            exact again_of ((m + 1, v)) (by refine ⟨?_, ?_, ?_, ?_, ?_, ?_, by omega⟩ <;> (first | (simp (maxSteps := 5000000) -dsimp only [gr, Nat.reduceEqDiff, Nat.reduceLT, Nat.reduceAdd, Nat.reduceMod, Nat.reduceBEq, sid_mod, sid_ne1, sid_ne2, sid_inj, h3c, r8c, h5c, r21c, h6c, h7c, wrap_nat hm (by omega), hy]; first | done | rfl | (simp; done)) | assumption | rfl)) (by first | omega | (simp only; omega) | (dsimp only; omega) | (show _ < _; simp; omega))
        · have hy : ordP (inF xs) k (m + 1) = ordP (inF xs) k m := ordP_no (by rw [hf]; rfl)
          exact again_of ((m + 1, v)) (by refine ⟨?_, ?_, ?_, ?_, ?_, ?_, by omega⟩ <;> (first | (simp (maxSteps := 5000000) -dsimp only [gr, Nat.reduceEqDiff, Nat.reduceLT, Nat.reduceAdd, Nat.reduceMod, Nat.reduceBEq, sid_mod, sid_ne1, sid_ne2, sid_inj, h3c, r8c, h5c, r21c, h6c, h7c, wrap_nat hm (by omega), hy]; first | done | rfl | (simp; done)) | assumption | rfl)) (by first | omega | (simp only; omega) | (dsimp only; omega) | (show _ < _; simp; omega))
      · have : m = 64 := by omega
        subst this
        have hk : k < 7 := by omega
        exact again_of ((k + 1, v, u)) (by refine ⟨?_, ?_, ?_, ?_, ?_, by omega⟩ <;> (first | (simp (maxSteps := 5000000) -dsimp only [gr, Nat.reduceEqDiff, Nat.reduceLT, Nat.reduceAdd, Nat.reduceMod, Nat.reduceBEq, sid_mod, sid_ne1, sid_ne2, sid_inj, h3b, r8b, h5b, r21b, h6b, h3c, r8c, h5c, r21c, h6c, h7c, wrap_nat hk (by omega), ordP_next]; first | done | rfl | (simp; done)) | assumption | rfl)) (by first | omega | (simp only; omega) | (dsimp only; omega) | (show _ < _; simp; omega))
    · have : k = 7 := by omega
      subst this
      rw [ordP_all]
theorem c_spec_l2Extreme (g : Bool) (xs : List Int) (hx : ∀ x ∈ xs, 0 ≤ x ∧ x < 64) : AC Try.prog 112 [ints xs, bool g] (.fr 3 1 (iL (ofN (extN (inF xs) g)))) := by
  refine AC.go (rs := [.tmp 4]) T_ok mixed Try.func112 rfl rfl rfl (by kernel_rfl) fun hl => ?_
  simp only [lens_cons, lens_nil, and_true, lens2_v, lens2_iL, true_and] at hl
  simp (maxSteps := 5000000) -dsimp only [↓gp, gq, reduceCtorEq, Nat.reduceEqDiff, Nat.reduceLT, Nat.reduceLeDiff, Nat.reduceAdd, Nat.reduceMul, Nat.reduceSub, Nat.reduceBEq, Int.reduceToNat, Int.reduceLE, Int.reduceLT, Int.reduceNeg, Nat.reduceMod, sid_ne1, sid_ne2, sid_inj, sid_mod, gT, TK.isInt, TK.agg, Array.toList]
  refine askK_of (c_spec_l2Order xs hx) ?_
  simp (maxSteps := 5000000) -dsimp only [↓gp, gq, reduceCtorEq, Nat.reduceEqDiff, Nat.reduceLT, Nat.reduceLeDiff, Nat.reduceAdd, Nat.reduceMul, Nat.reduceSub, Nat.reduceBEq, Int.reduceToNat, Int.reduceLE, Int.reduceLT, Int.reduceNeg, Nat.reduceMod, sid_ne1, sid_ne2, sid_inj, sid_mod, gT, TK.isInt, TK.agg, Array.toList]
  have hfull := ordN_len (inF xs)
  have hmemf : ∀ t, t ∈ ordN (inF xs) ↔ t < 64 ∧ inF xs t = true := fun t => mem_ordN
  unfold extN
  have hext : ∀ s, s < 64 → (extB (inF xs) g s = true ↔ ∀ t, t ∈ ordN (inF xs) → (if g = true then s &&& t = s else t &&& s = t) → t = s) := fun s hs => by
    cases g with
    | true => rw [extB_iff']; simp only [if_true]; exact ⟨fun h t ht => h t ((hmemf t).1 ht).1 ((hmemf t).1 ht).2, fun h t h1 h2 => h t ((hmemf t).2 ⟨h1, h2⟩)⟩
    | false => rw [extB_iff]; simp only [Bool.false_eq_true, if_false]; exact ⟨fun h t ht => h t ((hmemf t).1 ht).1 ((hmemf t).1 ht).2, fun h t h1 h2 => h t ((hmemf t).2 ⟨h1, h2⟩)⟩
  generalize ordN (inF xs) = all at *
  have hmem : ∀ k, k < all.length → all.getD k 0 < 64 := fun k hk => ((hmemf _).1 (getD_mem 0 hk)).1
  refine loop_of (fun (za : Nat × Nat × Nat) s => match za with | (k, v, u) => s.sl 1 = bool g ∧ s.sl 5 = .own 13 u ∧ s.rw 13 = ⟨u, .sli 3 1 false (iL (ofN all))⟩ ∧ s.sl 6 = .own 14 v ∧ s.rw 14 = ⟨v, .sli 3 1 false (iL (ofN ((all.take k).filter (extB (inF xs) g))))⟩ ∧ s.sl 7 = int k ∧ (k ≤ all.length)) (fun (k, v, u) => all.length - k) ((0, 1, 1)) (by refine ⟨?_, ?_, ?_, ?_, ?_, ?_, by simp⟩ <;> (first | (simp (maxSteps := 5000000) -dsimp only [gr, Nat.reduceEqDiff, Nat.reduceLT, Nat.reduceAdd, Nat.reduceMod, Nat.reduceBEq, sid_mod, sid_ne1, sid_ne2, sid_inj]; first | done | rfl | (simp; done)) | assumption | rfl)) ?_
  intro (k, v, u) sa ⟨h1a, h5a, r13a, h6a, r14a, h7a, hIa⟩
  simp (maxSteps := 5000000) -dsimp only [↓gp, gq, reduceCtorEq, Nat.reduceEqDiff, Nat.reduceLT, Nat.reduceLeDiff, Nat.reduceAdd, Nat.reduceMul, Nat.reduceSub, Nat.reduceBEq, Int.reduceToNat, Int.reduceLE, Int.reduceLT, Int.reduceNeg, Nat.reduceMod, sid_ne1, sid_ne2, sid_inj, sid_mod, gT, TK.isInt, TK.agg, Array.toList, h1a, h5a, r13a, h6a, r14a, h7a, ofN_length]
  have hol : ((all.take k).filter (extB (inF xs) g)).length ≤ k := Nat.le_trans filt_len (by simp; omega)
  refine ⟨fun hk => ?_, fun hk => ?_⟩
  · have hs := hmem k hk
    refine loop_of (fun (zb : Nat × Bool) s => match zb with | (j, fine) => s.sl 1 = bool g ∧ s.sl 5 = .own 13 u ∧ s.rw 13 = ⟨u, .sli 3 1 false (iL (ofN all))⟩ ∧ s.sl 6 = .own 14 v ∧ s.rw 14 = ⟨v, .sli 3 1 false (iL (ofN ((all.take k).filter (extB (inF xs) g))))⟩ ∧ s.sl 7 = int k ∧ s.sl 8 = bool fine ∧ s.sl 9 = int j ∧ (j ≤ all.length ∧ (fine = true ↔ ∀ i, i < j → (if g = true then all.getD k 0 &&& all.getD i 0 = all.getD k 0 else all.getD i 0 &&& all.getD k 0 = all.getD i 0) → all.getD i 0 = all.getD k 0))) (fun (j, fine) => all.length - j) ((0, true)) (by refine ⟨?_, ?_, ?_, ?_, ?_, ?_, ?_, ?_, by simp⟩ <;> (first | (simp (maxSteps := 5000000) -dsimp only [gr, Nat.reduceEqDiff, Nat.reduceLT, Nat.reduceAdd, Nat.reduceMod, Nat.reduceBEq, sid_mod, sid_ne1, sid_ne2, sid_inj, h1a, h5a, r13a, h6a, r14a, h7a]; first | done | rfl | (simp; done)) | assumption | rfl)) ?_
    intro (j, fine) sb ⟨h1b, h5b, r13b, h6b, r14b, h7b, h8b, h9b, hIb⟩
    obtain ⟨hj, hfine⟩ := hIb
    have ek : (ofN all).getD k 0 = ((all.getD k 0 : Nat) : Int) := ofN_getD hk
    have ej : j < all.length → (ofN all).getD j 0 = ((all.getD j 0 : Nat) : Int) := fun h => ofN_getD h
    have eand : j < all.length → iand .i64 ((ofN all).getD k 0) ((ofN all).getD j 0) = ((all.getD k 0 &&& all.getD j 0 : Nat) : Int) := fun h => by
      have := hmem j h
      rw [ek, ej h, iand_nat (by omega) (by omega)]
    have hend : j = all.length → (fine = true ↔ extB (inF xs) g (all.getD k 0) = true) := fun h => by
      rw [hfine, hext _ hs]
      exact ⟨fun h2 t ht => by obtain ⟨i, hi, rfl⟩ := mem_getD 0 ht; exact h2 i (by omega), fun h2 i hi => h2 _ (getD_mem 0 (by omega))⟩
    have hend2 : j = all.length → fine = false → extB (inF xs) g (all.getD k 0) = false := fun h hf => by
      cases hb : extB (inF xs) g (all.getD k 0) with
      | false => rfl
      | true => rw [(hend h).2 hb] at hf; cases hf
    have pfT : (if g = true then all.getD k 0 &&& all.getD j 0 = all.getD k 0 else all.getD j 0 &&& all.getD k 0 = all.getD j 0) → all.getD j 0 ≠ all.getD k 0 → (false = true ↔ ∀ i, i < j + 1 → (if g = true then all.getD k 0 &&& all.getD i 0 = all.getD k 0 else all.getD i 0 &&& all.getD k 0 = all.getD i 0) → all.getD i 0 = all.getD k 0) := fun hr hne =>
      ⟨fun h => (by cases h), fun h => absurd (h j (by omega) hr) hne⟩
    have pfF : (¬ (if g = true then all.getD k 0 &&& all.getD j 0 = all.getD k 0 else all.getD j 0 &&& all.getD k 0 = all.getD j 0) ∨ all.getD j 0 = all.getD k 0) → (fine = true ↔ ∀ i, i < j + 1 → (if g = true then all.getD k 0 &&& all.getD i 0 = all.getD k 0 else all.getD i 0 &&& all.getD k 0 = all.getD i 0) → all.getD i 0 = all.getD k 0) := fun hr => by
      rw [hfine]
      constructor
      · intro h i hi
        rcases Nat.lt_succ_iff_lt_or_eq.1 hi with hi | rfl
        · exact h i hi
        · exact fun h2 => hr.elim (fun h3 => absurd h2 h3) id
      · intro h i hi; exact h i (by omega)
    cases g with
    | true =>
      simp (maxSteps := 5000000) -dsimp only [↓gp, gq, reduceCtorEq, Nat.reduceEqDiff, Nat.reduceLT, Nat.reduceLeDiff, Nat.reduceAdd, Nat.reduceMul, Nat.reduceSub, Nat.reduceBEq, Int.reduceToNat, Int.reduceLE, Int.reduceLT, Int.reduceNeg, Nat.reduceMod, sid_ne1, sid_ne2, sid_inj, sid_mod, gT, TK.isInt, TK.agg, Array.toList, h1b, h5b, r13b, h6b, r14b, h7b, h8b, h9b, ofN_length]
      refine ⟨fun h2 => ⟨hk, hk, h2, h2, fun hne => ⟨fun he => again_of ((j + 1, fine)) ⟨(by (first | (simp (maxSteps := 5000000) -dsimp only [gr, Nat.reduceEqDiff, Nat.reduceLT, Nat.reduceAdd, Nat.reduceMod, Nat.reduceBEq, sid_mod, sid_ne1, sid_ne2, sid_inj, h1b, h5b, r13b, h6b, r14b, h7b, h8b, h9b, wrap_nat h2 (by omega)]; first | done | rfl | (simp; done)) | assumption | rfl)), (by (first | (simp (maxSteps := 5000000) -dsimp only [gr, Nat.reduceEqDiff, Nat.reduceLT, Nat.reduceAdd, Nat.reduceMod, Nat.reduceBEq, sid_mod, sid_ne1, sid_ne2, sid_inj, h1b, h5b, r13b, h6b, r14b, h7b, h8b, h9b, wrap_nat h2 (by omega)]; first | done | rfl | (simp; done)) | assumption | rfl)), (by (first | (simp (maxSteps := 5000000) -dsimp only [gr, Nat.reduceEqDiff, Nat.reduceLT, Nat.reduceAdd, Nat.reduceMod, Nat.reduceBEq, sid_mod, sid_ne1, sid_ne2, sid_inj, h1b, h5b, r13b, h6b, r14b, h7b, h8b, h9b, wrap_nat h2 (by omega)]; first | done | rfl | (simp; done)) | assumption | rfl)), (by (first | (simp (maxSteps := 5000000) -dsimp only [gr, Nat.reduceEqDiff, Nat.reduceLT, Nat.reduceAdd, Nat.reduceMod, Nat.reduceBEq, sid_mod, sid_ne1, sid_ne2, sid_inj, h1b, h5b, r13b, h6b, r14b, h7b, h8b, h9b, wrap_nat h2 (by omega)]; first | done | rfl | (simp; done)) | assumption | rfl)), (by (first | (simp (maxSteps := 5000000) -dsimp only [gr, Nat.reduceEqDiff, Nat.reduceLT, Nat.reduceAdd, Nat.reduceMod, Nat.reduceBEq, sid_mod, sid_ne1, sid_ne2, sid_inj, h1b, h5b, r13b, h6b, r14b, h7b, h8b, h9b, wrap_nat h2 (by omega)]; first | done | rfl | (simp; done)) | assumption | rfl)), (by (first | (simp (maxSteps := 5000000) -dsimp only [gr, Nat.reduceEqDiff, Nat.reduceLT, Nat.reduceAdd, Nat.reduceMod, Nat.reduceBEq, sid_mod, sid_ne1, sid_ne2, sid_inj, h1b, h5b, r13b, h6b, r14b, h7b, h8b, h9b, wrap_nat h2 (by omega)]; first | done | rfl | (simp; done)) | assumption | rfl)), (by (first | (simp (maxSteps := 5000000) -dsimp only [gr, Nat.reduceEqDiff, Nat.reduceLT, Nat.reduceAdd, Nat.reduceMod, Nat.reduceBEq, sid_mod, sid_ne1, sid_ne2, sid_inj, h1b, h5b, r13b, h6b, r14b, h7b, h8b, h9b, wrap_nat h2 (by omega)]; first | done | rfl | (simp; done)) | assumption | rfl)), (by (first | (simp (maxSteps := 5000000) -dsimp only [gr, Nat.reduceEqDiff, Nat.reduceLT, Nat.reduceAdd, Nat.reduceMod, Nat.reduceBEq, sid_mod, sid_ne1, sid_ne2, sid_inj, h1b, h5b, r13b, h6b, r14b, h7b, h8b, h9b, wrap_nat h2 (by omega)]; first | done | rfl | (simp; done)) | assumption | rfl)), ⟨by omega, pfF (.inl ?_)⟩⟩ (by first | omega | (simp only; omega) | (dsimp only; omega) | (show _ < _; simp; omega)), fun he => again_of ((j + 1, false)) ⟨(by (first | (simp (maxSteps := 5000000) -dsimp only [gr, Nat.reduceEqDiff, Nat.reduceLT, Nat.reduceAdd, Nat.reduceMod, Nat.reduceBEq, sid_mod, sid_ne1, sid_ne2, sid_inj, h1b, h5b, r13b, h6b, r14b, h7b, h8b, h9b, wrap_nat h2 (by omega)]; first | done | rfl | (simp; done)) | assumption | rfl)), (by (first | (simp (maxSteps := 5000000) -dsimp only [gr, Nat.reduceEqDiff, Nat.reduceLT, Nat.reduceAdd, Nat.reduceMod, Nat.reduceBEq, sid_mod, sid_ne1, sid_ne2, sid_inj, h1b, h5b, r13b, h6b, r14b, h7b, h8b, h9b, wrap_nat h2 (by omega)]; first | done | rfl | (simp; done)) | assumption | rfl)), (by (first | (simp (maxSteps := 5000000) -dsimp only [gr, Nat.reduceEqDiff, Nat.reduceLT, Nat.reduceAdd, Nat.reduceMod, Nat.reduceBEq, sid_mod, sid_ne1, sid_ne2, sid_inj, h1b, h5b, r13b, h6b, r14b, h7b, h8b, h9b, wrap_nat h2 (by omega)]; first | done | rfl | (simp; done)) | assumption | rfl)), (by (first | (simp (maxSteps := 5000000) -dsimp only [gr, Nat.reduceEqDiff, Nat.reduceLT, Nat.reduceAdd, Nat.reduceMod, Nat.reduceBEq, sid_mod, sid_ne1, sid_ne2, sid_inj, h1b, h5b, r13b, h6b, r14b, h7b, h8b, h9b, wrap_nat h2 (by omega)]; first | done | rfl | (simp; done)) | assumption | rfl)), (by (first | (simp (maxSteps := 5000000) -dsimp only [gr, Nat.reduceEqDiff, Nat.reduceLT, Nat.reduceAdd, Nat.reduceMod, Nat.reduceBEq, sid_mod, sid_ne1, sid_ne2, sid_inj, h1b, h5b, r13b, h6b, r14b, h7b, h8b, h9b, wrap_nat h2 (by omega)]; first | done | rfl | (simp; done)) | assumption | rfl)), (by (first | (simp (maxSteps := 5000000) -dsimp only [gr, Nat.reduceEqDiff, Nat.reduceLT, Nat.reduceAdd, Nat.reduceMod, Nat.reduceBEq, sid_mod, sid_ne1, sid_ne2, sid_inj, h1b, h5b, r13b, h6b, r14b, h7b, h8b, h9b, wrap_nat h2 (by omega)]; first | done | rfl | (simp; done)) | assumption | rfl)), (by (first | (simp (maxSteps := 5000000) -dsimp only [gr, Nat.reduceEqDiff, Nat.reduceLT, Nat.reduceAdd, Nat.reduceMod, Nat.reduceBEq, sid_mod, sid_ne1, sid_ne2, sid_inj, h1b, h5b, r13b, h6b, r14b, h7b, h8b, h9b, wrap_nat h2 (by omega)]; first | done | rfl | (simp; done)) | assumption | rfl)), (by (first | (simp (maxSteps := 5000000) -dsimp only [gr, Nat.reduceEqDiff, Nat.reduceLT, Nat.reduceAdd, Nat.reduceMod, Nat.reduceBEq, sid_mod, sid_ne1, sid_ne2, sid_inj, h1b, h5b, r13b, h6b, r14b, h7b, h8b, h9b, wrap_nat h2 (by omega)]; first | done | rfl | (simp; done)) | assumption | rfl)), ⟨by omega, pfT ?_ ?_⟩⟩ (by first | omega | (simp only; omega) | (dsimp only; omega) | (show _ < _; simp; omega))⟩, fun hne => again_of ((j + 1, fine)) ⟨(by (first | (simp (maxSteps := 5000000) -dsimp only [gr, Nat.reduceEqDiff, Nat.reduceLT, Nat.reduceAdd, Nat.reduceMod, Nat.reduceBEq, sid_mod, sid_ne1, sid_ne2, sid_inj, h1b, h5b, r13b, h6b, r14b, h7b, h8b, h9b, wrap_nat h2 (by omega)]; first | done | rfl | (simp; done)) | assumption | rfl)), (by (first | (simp (maxSteps := 5000000) -dsimp only [gr, Nat.reduceEqDiff, Nat.reduceLT, Nat.reduceAdd, Nat.reduceMod, Nat.reduceBEq, sid_mod, sid_ne1, sid_ne2, sid_inj, h1b, h5b, r13b, h6b, r14b, h7b, h8b, h9b, wrap_nat h2 (by omega)]; first | done | rfl | (simp; done)) | assumption | rfl)), (by (first | (simp (maxSteps := 5000000) -dsimp only [gr, Nat.reduceEqDiff, Nat.reduceLT, Nat.reduceAdd, Nat.reduceMod, Nat.reduceBEq, sid_mod, sid_ne1, sid_ne2, sid_inj, h1b, h5b, r13b, h6b, r14b, h7b, h8b, h9b, wrap_nat h2 (by omega)]; first | done | rfl | (simp; done)) | assumption | rfl)), (by (first | (simp (maxSteps := 5000000) -dsimp only [gr, Nat.reduceEqDiff, Nat.reduceLT, Nat.reduceAdd, Nat.reduceMod, Nat.reduceBEq, sid_mod, sid_ne1, sid_ne2, sid_inj, h1b, h5b, r13b, h6b, r14b, h7b, h8b, h9b, wrap_nat h2 (by omega)]; first | done | rfl | (simp; done)) | assumption | rfl)), (by (first | (simp (maxSteps := 5000000) -dsimp only [gr, Nat.reduceEqDiff, Nat.reduceLT, Nat.reduceAdd, Nat.reduceMod, Nat.reduceBEq, sid_mod, sid_ne1, sid_ne2, sid_inj, h1b, h5b, r13b, h6b, r14b, h7b, h8b, h9b, wrap_nat h2 (by omega)]; first | done | rfl | (simp; done)) | assumption | rfl)), (by (first | (simp (maxSteps := 5000000) -dsimp only [gr, Nat.reduceEqDiff, Nat.reduceLT, Nat.reduceAdd, Nat.reduceMod, Nat.reduceBEq, sid_mod, sid_ne1, sid_ne2, sid_inj, h1b, h5b, r13b, h6b, r14b, h7b, h8b, h9b, wrap_nat h2 (by omega)]; first | done | rfl | (simp; done)) | assumption | rfl)), (by (first | (simp (maxSteps := 5000000) -dsimp only [gr, Nat.reduceEqDiff, Nat.reduceLT, Nat.reduceAdd, Nat.reduceMod, Nat.reduceBEq, sid_mod, sid_ne1, sid_ne2, sid_inj, h1b, h5b, r13b, h6b, r14b, h7b, h8b, h9b, wrap_nat h2 (by omega)]; first | done | rfl | (simp; done)) | assumption | rfl)), (by (first | (simp (maxSteps := 5000000) -dsimp only [gr, Nat.reduceEqDiff, Nat.reduceLT, Nat.reduceAdd, Nat.reduceMod, Nat.reduceBEq, sid_mod, sid_ne1, sid_ne2, sid_inj, h1b, h5b, r13b, h6b, r14b, h7b, h8b, h9b, wrap_nat h2 (by omega)]; first | done | rfl | (simp; done)) | assumption | rfl)), ⟨by omega, pfF (.inr ?_)⟩⟩ (by first | omega | (simp only; omega) | (dsimp only; omega) | (show _ < _; simp; omega))⟩, fun h2 => ?_⟩
      · rw [eand h2, ek] at he
        simp only [if_true]
        intro e; rw [e] at he; simp at he
      · rw [eand h2, ek] at he
        have := beq_iff_eq.1 he
        simp only [if_true]; omega
      · rw [ek, ej h2] at hne
        intro e; rw [e] at hne; simp at hne
      · rw [ek, ej h2] at hne
        have := bne_eq_false_iff_eq.1 hne
        omega
      · refine ⟨fun hf => ⟨hk, hk, by omega, ?_⟩, fun hf => ?_⟩
        · have hx := (hend (by omega)).1 hf
          exact again_of ((k + 1, v + 1, u)) (by refine ⟨?_, ?_, ?_, ?_, ?_, ?_, by omega⟩ <;> (first | (simp (maxSteps := 5000000) -dsimp only [gr, Nat.reduceEqDiff, Nat.reduceLT, Nat.reduceAdd, Nat.reduceMod, Nat.reduceBEq, sid_mod, sid_ne1, sid_ne2, sid_inj, h1a, h5a, r13a, h6a, r14a, h7a, h1b, h5b, r13b, h6b, r14b, h7b, h8b, h9b, wrap_nat hk (by omega), filt_yes hk hx, ofN_append, ofN_one, ek]; first | done | rfl | (simp; done)) | assumption | rfl)) (by first | omega | (simp only; omega) | (dsimp only; omega) | (show _ < _; simp; omega))
        · have hx := hend2 (by omega) hf
          exact again_of ((k + 1, v, u)) (by refine ⟨?_, ?_, ?_, ?_, ?_, ?_, by omega⟩ <;> (first | (simp (maxSteps := 5000000) -dsimp only [gr, Nat.reduceEqDiff, Nat.reduceLT, Nat.reduceAdd, Nat.reduceMod, Nat.reduceBEq, sid_mod, sid_ne1, sid_ne2, sid_inj, h1a, h5a, r13a, h6a, r14a, h7a, h1b, h5b, r13b, h6b, r14b, h7b, h8b, h9b, wrap_nat hk (by omega), filt_no hk hx]; first | done | rfl | (simp; done)) | assumption | rfl)) (by first | omega | (simp only; omega) | (dsimp only; omega) | (show _ < _; simp; omega))
    | false =>
      simp (maxSteps := 5000000) -dsimp only [↓gp, gq, reduceCtorEq, Nat.reduceEqDiff, Nat.reduceLT, Nat.reduceLeDiff, Nat.reduceAdd, Nat.reduceMul, Nat.reduceSub, Nat.reduceBEq, Int.reduceToNat, Int.reduceLE, Int.reduceLT, Int.reduceNeg, Nat.reduceMod, sid_ne1, sid_ne2, sid_inj, sid_mod, gT, TK.isInt, TK.agg, Array.toList, h1b, h5b, r13b, h6b, r14b, h7b, h8b, h9b, ofN_length]
      refine ⟨fun h2 => ⟨hk, hk, h2, h2, fun hne => ⟨fun he => again_of ((j + 1, false)) ⟨(by (first | (simp (maxSteps := 5000000) -dsimp only [gr, Nat.reduceEqDiff, Nat.reduceLT, Nat.reduceAdd, Nat.reduceMod, Nat.reduceBEq, sid_mod, sid_ne1, sid_ne2, sid_inj, h1b, h5b, r13b, h6b, r14b, h7b, h8b, h9b, wrap_nat h2 (by omega)]; first | done | rfl | (simp; done)) | assumption | rfl)), (by (first | (simp (maxSteps := 5000000) -dsimp only [gr, Nat.reduceEqDiff, Nat.reduceLT, Nat.reduceAdd, Nat.reduceMod, Nat.reduceBEq, sid_mod, sid_ne1, sid_ne2, sid_inj, h1b, h5b, r13b, h6b, r14b, h7b, h8b, h9b, wrap_nat h2 (by omega)]; first | done | rfl | (simp; done)) | assumption | rfl)), (by (first | (simp (maxSteps := 5000000) -dsimp only [gr, Nat.reduceEqDiff, Nat.reduceLT, Nat.reduceAdd, Nat.reduceMod, Nat.reduceBEq, sid_mod, sid_ne1, sid_ne2, sid_inj, h1b, h5b, r13b, h6b, r14b, h7b, h8b, h9b, wrap_nat h2 (by omega)]; first | done | rfl | (simp; done)) | assumption | rfl)), (by (first | (simp (maxSteps := 5000000) -dsimp only [gr, Nat.reduceEqDiff, Nat.reduceLT, Nat.reduceAdd, Nat.reduceMod, Nat.reduceBEq, sid_mod, sid_ne1, sid_ne2, sid_inj, h1b, h5b, r13b, h6b, r14b, h7b, h8b, h9b, wrap_nat h2 (by omega)]; first | done | rfl | (simp; done)) | assumption | rfl)), (by (first | (simp (maxSteps := 5000000) -dsimp only [gr, Nat.reduceEqDiff, Nat.reduceLT, Nat.reduceAdd, Nat.reduceMod, Nat.reduceBEq, sid_mod, sid_ne1, sid_ne2, sid_inj, h1b, h5b, r13b, h6b, r14b, h7b, h8b, h9b, wrap_nat h2 (by omega)]; first | done | rfl | (simp; done)) | assumption | rfl)), (by (first | (simp (maxSteps := 5000000) -dsimp only [gr, Nat.reduceEqDiff, Nat.reduceLT, Nat.reduceAdd, Nat.reduceMod, Nat.reduceBEq, sid_mod, sid_ne1, sid_ne2, sid_inj, h1b, h5b, r13b, h6b, r14b, h7b, h8b, h9b, wrap_nat h2 (by omega)]; first | done | rfl | (simp; done)) | assumption | rfl)), (by (first | (simp (maxSteps := 5000000) -dsimp only [gr, Nat.reduceEqDiff, Nat.reduceLT, Nat.reduceAdd, Nat.reduceMod, Nat.reduceBEq, sid_mod, sid_ne1, sid_ne2, sid_inj, h1b, h5b, r13b, h6b, r14b, h7b, h8b, h9b, wrap_nat h2 (by omega)]; first | done | rfl | (simp; done)) | assumption | rfl)), (by (first | (simp (maxSteps := 5000000) -dsimp only [gr, Nat.reduceEqDiff, Nat.reduceLT, Nat.reduceAdd, Nat.reduceMod, Nat.reduceBEq, sid_mod, sid_ne1, sid_ne2, sid_inj, h1b, h5b, r13b, h6b, r14b, h7b, h8b, h9b, wrap_nat h2 (by omega)]; first | done | rfl | (simp; done)) | assumption | rfl)), ⟨by omega, pfT ?_ ?_⟩⟩ (by first | omega | (simp only; omega) | (dsimp only; omega) | (show _ < _; simp; omega)), fun he => again_of ((j + 1, fine)) ⟨(by (first | (simp (maxSteps := 5000000) -dsimp only [gr, Nat.reduceEqDiff, Nat.reduceLT, Nat.reduceAdd, Nat.reduceMod, Nat.reduceBEq, sid_mod, sid_ne1, sid_ne2, sid_inj, h1b, h5b, r13b, h6b, r14b, h7b, h8b, h9b, wrap_nat h2 (by omega)]; first | done | rfl | (simp; done)) | assumption | rfl)), (by (first | (simp (maxSteps := 5000000) -dsimp only [gr, Nat.reduceEqDiff, Nat.reduceLT, Nat.reduceAdd, Nat.reduceMod, Nat.reduceBEq, sid_mod, sid_ne1, sid_ne2, sid_inj, h1b, h5b, r13b, h6b, r14b, h7b, h8b, h9b, wrap_nat h2 (by omega)]; first | done | rfl | (simp; done)) | assumption | rfl)), (by (first | (simp (maxSteps := 5000000) -dsimp only [gr, Nat.reduceEqDiff, Nat.reduceLT, Nat.reduceAdd, Nat.reduceMod, Nat.reduceBEq, sid_mod, sid_ne1, sid_ne2, sid_inj, h1b, h5b, r13b, h6b, r14b, h7b, h8b, h9b, wrap_nat h2 (by omega)]; first | done | rfl | (simp; done)) | assumption | rfl)), (by (first | (simp (maxSteps := 5000000) -dsimp only [gr, Nat.reduceEqDiff, Nat.reduceLT, Nat.reduceAdd, Nat.reduceMod, Nat.reduceBEq, sid_mod, sid_ne1, sid_ne2, sid_inj, h1b, h5b, r13b, h6b, r14b, h7b, h8b, h9b, wrap_nat h2 (by omega)]; first | done | rfl | (simp; done)) | assumption | rfl)), (by (first | (simp (maxSteps := 5000000) -dsimp only [gr, Nat.reduceEqDiff, Nat.reduceLT, Nat.reduceAdd, Nat.reduceMod, Nat.reduceBEq, sid_mod, sid_ne1, sid_ne2, sid_inj, h1b, h5b, r13b, h6b, r14b, h7b, h8b, h9b, wrap_nat h2 (by omega)]; first | done | rfl | (simp; done)) | assumption | rfl)), (by (first | (simp (maxSteps := 5000000) -dsimp only [gr, Nat.reduceEqDiff, Nat.reduceLT, Nat.reduceAdd, Nat.reduceMod, Nat.reduceBEq, sid_mod, sid_ne1, sid_ne2, sid_inj, h1b, h5b, r13b, h6b, r14b, h7b, h8b, h9b, wrap_nat h2 (by omega)]; first | done | rfl | (simp; done)) | assumption | rfl)), (by (first | (simp (maxSteps := 5000000) -dsimp only [gr, Nat.reduceEqDiff, Nat.reduceLT, Nat.reduceAdd, Nat.reduceMod, Nat.reduceBEq, sid_mod, sid_ne1, sid_ne2, sid_inj, h1b, h5b, r13b, h6b, r14b, h7b, h8b, h9b, wrap_nat h2 (by omega)]; first | done | rfl | (simp; done)) | assumption | rfl)), (by (first | (simp (maxSteps := 5000000) -dsimp only [gr, Nat.reduceEqDiff, Nat.reduceLT, Nat.reduceAdd, Nat.reduceMod, Nat.reduceBEq, sid_mod, sid_ne1, sid_ne2, sid_inj, h1b, h5b, r13b, h6b, r14b, h7b, h8b, h9b, wrap_nat h2 (by omega)]; first | done | rfl | (simp; done)) | assumption | rfl)), ⟨by omega, pfF (.inl ?_)⟩⟩ (by first | omega | (simp only; omega) | (dsimp only; omega) | (show _ < _; simp; omega))⟩, fun hne => again_of ((j + 1, fine)) ⟨(by (first | (simp (maxSteps := 5000000) -dsimp only [gr, Nat.reduceEqDiff, Nat.reduceLT, Nat.reduceAdd, Nat.reduceMod, Nat.reduceBEq, sid_mod, sid_ne1, sid_ne2, sid_inj, h1b, h5b, r13b, h6b, r14b, h7b, h8b, h9b, wrap_nat h2 (by omega)]; first | done | rfl | (simp; done)) | assumption | rfl)), (by (first | (simp (maxSteps := 5000000) -dsimp only [gr, Nat.reduceEqDiff, Nat.reduceLT, Nat.reduceAdd, Nat.reduceMod, Nat.reduceBEq, sid_mod, sid_ne1, sid_ne2, sid_inj, h1b, h5b, r13b, h6b, r14b, h7b, h8b, h9b, wrap_nat h2 (by omega)]; first | done | rfl | (simp; done)) | assumption | rfl)), (by (first | (simp (maxSteps := 5000000) -dsimp only [gr, Nat.reduceEqDiff, Nat.reduceLT, Nat.reduceAdd, Nat.reduceMod, Nat.reduceBEq, sid_mod, sid_ne1, sid_ne2, sid_inj, h1b, h5b, r13b, h6b, r14b, h7b, h8b, h9b, wrap_nat h2 (by omega)]; first | done | rfl | (simp; done)) | assumption | rfl)), (by (first | (simp (maxSteps := 5000000) -dsimp only [gr, Nat.reduceEqDiff, Nat.reduceLT, Nat.reduceAdd, Nat.reduceMod, Nat.reduceBEq, sid_mod, sid_ne1, sid_ne2, sid_inj, h1b, h5b, r13b, h6b, r14b, h7b, h8b, h9b, wrap_nat h2 (by omega)]; first | done | rfl | (simp; done)) | assumption | rfl)), (by (first | (simp (maxSteps := 5000000) -dsimp only [gr, Nat.reduceEqDiff, Nat.reduceLT, Nat.reduceAdd, Nat.reduceMod, Nat.reduceBEq, sid_mod, sid_ne1, sid_ne2, sid_inj, h1b, h5b, r13b, h6b, r14b, h7b, h8b, h9b, wrap_nat h2 (by omega)]; first | done | rfl | (simp; done)) | assumption | rfl)), (by (first | (simp (maxSteps := 5000000) -dsimp only [gr, Nat.reduceEqDiff, Nat.reduceLT, Nat.reduceAdd, Nat.reduceMod, Nat.reduceBEq, sid_mod, sid_ne1, sid_ne2, sid_inj, h1b, h5b, r13b, h6b, r14b, h7b, h8b, h9b, wrap_nat h2 (by omega)]; first | done | rfl | (simp; done)) | assumption | rfl)), (by (first | (simp (maxSteps := 5000000) -dsimp only [gr, Nat.reduceEqDiff, Nat.reduceLT, Nat.reduceAdd, Nat.reduceMod, Nat.reduceBEq, sid_mod, sid_ne1, sid_ne2, sid_inj, h1b, h5b, r13b, h6b, r14b, h7b, h8b, h9b, wrap_nat h2 (by omega)]; first | done | rfl | (simp; done)) | assumption | rfl)), (by (first | (simp (maxSteps := 5000000) -dsimp only [gr, Nat.reduceEqDiff, Nat.reduceLT, Nat.reduceAdd, Nat.reduceMod, Nat.reduceBEq, sid_mod, sid_ne1, sid_ne2, sid_inj, h1b, h5b, r13b, h6b, r14b, h7b, h8b, h9b, wrap_nat h2 (by omega)]; first | done | rfl | (simp; done)) | assumption | rfl)), ⟨by omega, pfF (.inr ?_)⟩⟩ (by first | omega | (simp only; omega) | (dsimp only; omega) | (show _ < _; simp; omega))⟩, fun h2 => ?_⟩
      · rw [eand h2, ej h2] at he
        have := beq_iff_eq.1 he
        simp only [Bool.false_eq_true, if_false]; rw [Nat.and_comm]; omega
      · rw [ek, ej h2] at hne
        intro e; rw [e] at hne; simp at hne
      · rw [eand h2, ej h2] at he
        simp only [Bool.false_eq_true, if_false]
        intro e; rw [Nat.and_comm] at e; rw [e] at he; simp at he
      · rw [ek, ej h2] at hne
        have := bne_eq_false_iff_eq.1 hne
        omega
      · refine ⟨fun hf => ⟨hk, hk, by omega, ?_⟩, fun hf => ?_⟩
        · have hx := (hend (by omega)).1 hf
          exact again_of ((k + 1, v + 1, u)) (by refine ⟨?_, ?_, ?_, ?_, ?_, ?_, by omega⟩ <;> (first | (simp (maxSteps := 5000000) -dsimp only [gr, Nat.reduceEqDiff, Nat.reduceLT, Nat.reduceAdd, Nat.reduceMod, Nat.reduceBEq, sid_mod, sid_ne1, sid_ne2, sid_inj, h1a, h5a, r13a, h6a, r14a, h7a, h1b, h5b, r13b, h6b, r14b, h7b, h8b, h9b, wrap_nat hk (by omega), filt_yes hk hx, ofN_append, ofN_one, ek]; first | done | rfl | (simp; done)) | assumption | rfl)) (by first | omega | (simp only; omega) | (dsimp only; omega) | (show _ < _; simp; omega))
        · have hx := hend2 (by omega) hf
          exact again_of ((k + 1, v, u)) (by refine ⟨?_, ?_, ?_, ?_, ?_, ?_, by omega⟩ <;> (first | (simp (maxSteps := 5000000) -dsimp only [gr, Nat.reduceEqDiff, Nat.reduceLT, Nat.reduceAdd, Nat.reduceMod, Nat.reduceBEq, sid_mod, sid_ne1, sid_ne2, sid_inj, h1a, h5a, r13a, h6a, r14a, h7a, h1b, h5b, r13b, h6b, r14b, h7b, h8b, h9b, wrap_nat hk (by omega), filt_no hk hx]; first | done | rfl | (simp; done)) | assumption | rfl)) (by first | omega | (simp only; omega) | (dsimp only; omega) | (show _ < _; simp; omega))
  · have : k = all.length := by omega
    subst this
    rw [List.take_length]
end Go.Proofs.Ytnfpeinbdfmlnaa

namespace Go.Proofs.Ytnfpeinbdfmlnaa
open Go.Abs
set_option linter.unusedSimpArgs false
set_option linter.unusedVariables false

theorem sameG_refl (n : Int) (xs : List Int) : sameG n xs n xs = true := by simp [sameG]
/-- Numbers from one on. -/
def mks (k : Int) (n : Nat) : List Int := (List.range n).map fun i : Nat => k + (i : Int)
theorem mks_length (k : Int) (n : Nat) : (mks k n).length = n := by simp [mks]
theorem mks_getD (k : Int) {n i : Nat} (h : i < n) : (mks k n).getD i 0 = k + i := by simp [mks, List.getD, h]
theorem mks_set (k : Int) (xs : List Int) {i : Nat} (h : i < xs.length) : (mks k i ++ xs.drop i).set i (k + i) = mks k (i + 1) ++ xs.drop (i + 1) := by
  have hl : (mks k i).length = i := mks_length k i
  rw [List.set_append_right _ _ (by omega), hl, Nat.sub_self]
  have e : xs.drop i = xs[i] :: xs.drop (i + 1) := by rw [List.drop_eq_getElem_cons h]
  rw [e, List.set_cons_zero]
  simp [mks, List.range_succ]
theorem c_laws_markIntS (xs : List Int) (k : Int) (hx : xs.length ≤ 1152921504606846976) (k0 : 0 ≤ k) (k1 : k ≤ 1152921504606846976) : AM Try.prog 22 [.own 1000000 1, int k] [⟨3, 1, iL xs⟩] [iL (mks k xs.length)] (.int .i64 (k + xs.length)) := by
  refine AM.go (rs := [.tmp 4]) T_ok mixed Try.func22 rfl rfl rfl (by kernel_rfl) (plainR_cons (plain_iL _) plainR_nil) (plains_cons (plain_iL _) plains_nil) rfl fun hl => ?_
  simp (maxSteps := 5000000) -dsimp only [↓gp, gq, reduceCtorEq, Nat.reduceEqDiff, Nat.reduceLT, Nat.reduceLeDiff, Nat.reduceAdd, Nat.reduceMul, Nat.reduceSub, Nat.reduceBEq, Int.reduceToNat, Int.reduceLE, Int.reduceLT, Int.reduceNeg, Nat.reduceMod, sid_ne1, sid_ne2, sid_inj, sid_mod, gT, TK.isInt, TK.agg, Array.toList]
  refine loop_of (fun (i : Nat) s => s.sl 0 = .own 1000000 1 ∧ s.rw 1000000 = ⟨1, .sli 3 1 false (iL (mks k i ++ xs.drop i))⟩ ∧ s.sl 1 = int (k + i) ∧ s.sl 5 = int i ∧ i ≤ xs.length) (fun i => xs.length - i) 0 ⟨by simp (maxSteps := 5000000) -dsimp only [gr, Nat.reduceEqDiff, Nat.reduceLT, Nat.reduceAdd, Nat.reduceMod, Nat.reduceBEq, sid_mod, sid_ne1, sid_ne2, sid_inj], by simp (maxSteps := 5000000) -dsimp only [gr, Nat.reduceEqDiff, Nat.reduceLT, Nat.reduceAdd, Nat.reduceMod, Nat.reduceBEq, sid_mod, sid_ne1, sid_ne2, sid_inj]; simp [mks], by simp (maxSteps := 5000000) -dsimp only [gr, Nat.reduceEqDiff, Nat.reduceLT, Nat.reduceAdd, Nat.reduceMod, Nat.reduceBEq, sid_mod, sid_ne1, sid_ne2, sid_inj]; simp, by simp (maxSteps := 5000000) -dsimp only [gr, Nat.reduceEqDiff, Nat.reduceLT, Nat.reduceAdd, Nat.reduceMod, Nat.reduceBEq, sid_mod, sid_ne1, sid_ne2, sid_inj]; rfl, by simp⟩ ?_
  intro i s1 ⟨h0, r0, h1, h5, hi⟩
  have hlen : (mks k i ++ xs.drop i).length = xs.length := by simp [mks_length]; omega
  simp (maxSteps := 5000000) -dsimp only [↓gp, gq, reduceCtorEq, Nat.reduceEqDiff, Nat.reduceLT, Nat.reduceLeDiff, Nat.reduceAdd, Nat.reduceMul, Nat.reduceSub, Nat.reduceBEq, Int.reduceToNat, Int.reduceLE, Int.reduceLT, Int.reduceNeg, Nat.reduceMod, sid_ne1, sid_ne2, sid_inj, sid_mod, gT, TK.isInt, TK.agg, Array.toList, h0, r0, h1, h5, hlen]
  refine ⟨fun h => ⟨by omega, by omega, again_of (i + 1) ⟨by simp (maxSteps := 5000000) -dsimp only [gr, Nat.reduceEqDiff, Nat.reduceLT, Nat.reduceAdd, Nat.reduceMod, Nat.reduceBEq, sid_mod, sid_ne1, sid_ne2, sid_inj, h0], by simp (maxSteps := 5000000) -dsimp only [gr, Nat.reduceEqDiff, Nat.reduceLT, Nat.reduceAdd, Nat.reduceMod, Nat.reduceBEq, sid_mod, sid_ne1, sid_ne2, sid_inj, r0]; rw [mks_set k xs h], ?_, ?_, by omega⟩ (by omega)⟩, fun h => ?_⟩
  · simp (maxSteps := 5000000) -dsimp only [gr, Nat.reduceEqDiff, Nat.reduceLT, Nat.reduceAdd, Nat.reduceMod, Nat.reduceBEq, sid_mod, sid_ne1, sid_ne2, sid_inj]
    rw [wrap_id (by omega) (by omega)]; congr 2; omega
  · simp (maxSteps := 5000000) -dsimp only [gr, Nat.reduceEqDiff, Nat.reduceLT, Nat.reduceAdd, Nat.reduceMod, Nat.reduceBEq, sid_mod, sid_ne1, sid_ne2, sid_inj]
    rw [wrap_nat h (by omega)]
  · obtain rfl : i = xs.length := by omega
    simp
theorem c_laws_heldIntS (k : Int) (n : Nat) (hn : n ≤ 1152921504606846976) (k0 : 0 ≤ k) (k1 : k ≤ 1152921504606846976) : AC Try.prog 23 [ints (mks k n), int k] (.im (int (k + n))) := by
  refine AC.go (rs := [.tmp 4]) T_ok mixed Try.func23 rfl rfl rfl (by kernel_rfl) fun hl => ?_
  simp (maxSteps := 5000000) -dsimp only [↓gp, gq, reduceCtorEq, Nat.reduceEqDiff, Nat.reduceLT, Nat.reduceLeDiff, Nat.reduceAdd, Nat.reduceMul, Nat.reduceSub, Nat.reduceBEq, Int.reduceToNat, Int.reduceLE, Int.reduceLT, Int.reduceNeg, Nat.reduceMod, sid_ne1, sid_ne2, sid_inj, sid_mod, gT, TK.isInt, TK.agg, Array.toList]
  refine loop_of (fun (i : Nat) s => s.sl 0 = ints (mks k n) ∧ s.sl 1 = int (k + i) ∧ s.sl 5 = int i ∧ i ≤ n) (fun i => n - i) 0 ⟨by simp (maxSteps := 5000000) -dsimp only [gr, Nat.reduceEqDiff, Nat.reduceLT, Nat.reduceAdd, Nat.reduceMod, Nat.reduceBEq, sid_mod, sid_ne1, sid_ne2, sid_inj], by simp (maxSteps := 5000000) -dsimp only [gr, Nat.reduceEqDiff, Nat.reduceLT, Nat.reduceAdd, Nat.reduceMod, Nat.reduceBEq, sid_mod, sid_ne1, sid_ne2, sid_inj]; simp, by simp (maxSteps := 5000000) -dsimp only [gr, Nat.reduceEqDiff, Nat.reduceLT, Nat.reduceAdd, Nat.reduceMod, Nat.reduceBEq, sid_mod, sid_ne1, sid_ne2, sid_inj]; rfl, by simp⟩ ?_
  intro i s1 ⟨h0, h1, h5, hi⟩
  simp (maxSteps := 5000000) -dsimp only [↓gp, gq, reduceCtorEq, Nat.reduceEqDiff, Nat.reduceLT, Nat.reduceLeDiff, Nat.reduceAdd, Nat.reduceMul, Nat.reduceSub, Nat.reduceBEq, Int.reduceToNat, Int.reduceLE, Int.reduceLT, Int.reduceNeg, Nat.reduceMod, sid_ne1, sid_ne2, sid_inj, sid_mod, gT, TK.isInt, TK.agg, Array.toList, h0, h1, h5, mks_length]
  refine ⟨fun h => ⟨h, h, fun hc => ?_, fun hc => again_of (i + 1) ⟨by simp (maxSteps := 5000000) -dsimp only [gr, Nat.reduceEqDiff, Nat.reduceLT, Nat.reduceAdd, Nat.reduceMod, Nat.reduceBEq, sid_mod, sid_ne1, sid_ne2, sid_inj, h0], ?_, ?_, by omega⟩ (by omega)⟩, fun h => ?_⟩
  · rw [mks_getD k h] at hc
    simp at hc
  · simp (maxSteps := 5000000) -dsimp only [gr, Nat.reduceEqDiff, Nat.reduceLT, Nat.reduceAdd, Nat.reduceMod, Nat.reduceBEq, sid_mod, sid_ne1, sid_ne2, sid_inj]
    rw [wrap_id (by omega) (by omega)]; congr 2; omega
  · simp (maxSteps := 5000000) -dsimp only [gr, Nat.reduceEqDiff, Nat.reduceLT, Nat.reduceAdd, Nat.reduceMod, Nat.reduceBEq, sid_mod, sid_ne1, sid_ne2, sid_inj]
    rw [wrap_nat h (by omega)]
  · obtain rfl : i = n := by omega
    rfl
end Go.Proofs.Ytnfpeinbdfmlnaa
