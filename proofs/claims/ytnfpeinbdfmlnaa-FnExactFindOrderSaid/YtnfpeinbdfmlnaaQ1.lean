/- DERIVED by an AI agent. -/
import Derived.Test.YtnfpeinbdfmlnaaB1
import Derived.Test.YtnfpeinbdfmlnaaP1
import Derived.Test.YtnfpeinbdfmlnaaA16
namespace Go.Proofs.Ytnfpeinbdfmlnaa
open Go.Abs
set_option linter.unusedSimpArgs false
set_option linter.unusedVariables false

theorem c_cmp_isNaN (a : Int) : AC Try.prog 204 [int a] (.im (bool false)) := by
  refine AC.go (rs := [.tmp 2]) T_ok mixed Try.func204 rfl rfl rfl (by kernel_rfl) fun _ => ?_
  simp (maxSteps := 5000000) -dsimp only [↓gp, gq, reduceCtorEq, Nat.reduceEqDiff, Nat.reduceLT, Nat.reduceLeDiff, Nat.reduceAdd, Nat.reduceMul, Nat.reduceSub, Nat.reduceBEq, Int.reduceToNat, Int.reduceLE, Int.reduceLT, Int.reduceNeg, Nat.reduceMod, sid_ne1, sid_ne2, sid_inj, sid_mod, gT, TK.isInt, TK.agg, Array.toList]
  simp
theorem c_spec_l1In (a b c : Int) : AC Try.prog 59 [int a, int b, int c] (.im (bool (decide (b ≤ a) && decide (a ≤ c)))) := by
  refine AC.go (rs := [.tmp 6]) T_ok mixed Try.func59 rfl rfl rfl (by kernel_rfl) fun _ => ?_
  simp (maxSteps := 5000000) -dsimp only [↓gp, gq, reduceCtorEq, Nat.reduceEqDiff, Nat.reduceLT, Nat.reduceLeDiff, Nat.reduceAdd, Nat.reduceMul, Nat.reduceSub, Nat.reduceBEq, Int.reduceToNat, Int.reduceLE, Int.reduceLT, Int.reduceNeg, Nat.reduceMod, sid_ne1, sid_ne2, sid_inj, sid_mod, gT, TK.isInt, TK.agg, Array.toList]
  exact ⟨fun h => by simp [h], fun h => by simp [h]⟩
def isPow (xs : List Int) : Bool := xs.length == 3 && xs.all fun n => decide (0 ≤ n) && decide (n ≤ 2)
theorem c_laws_eqIntS (xs ys : List Int) : AC Try.prog 20 [ints xs, ints ys] (.im (bool (decide (xs = ys)))) := by
  refine AC.go (rs := [.tmp 4]) T_ok mixed Try.func20 rfl rfl rfl (by kernel_rfl) fun hl => ?_
  simp only [lens_cons, lens2_iL, lens_nil, and_true] at hl
  simp (maxSteps := 5000000) -dsimp only [↓gp, gq, reduceCtorEq, Nat.reduceEqDiff, Nat.reduceLT, Nat.reduceLeDiff, Nat.reduceAdd, Nat.reduceMul, Nat.reduceSub, Nat.reduceBEq, Int.reduceToNat, Int.reduceLE, Int.reduceLT, Int.reduceNeg, Nat.reduceMod, sid_ne1, sid_ne2, sid_inj, sid_mod, gT, TK.isInt, TK.agg, Array.toList]
  refine ⟨fun h => ?_, fun h => ?_⟩
  · intro e
    simp [e] at h
  · have hn : xs.length = ys.length := by simp at h; omega
    refine loop_of (fun (i : Nat) s => s.sl 0 = ints xs ∧ s.sl 1 = ints ys ∧ s.sl 5 = int i ∧ i ≤ xs.length ∧ xs.take i = ys.take i) (fun i => xs.length - i) 0 ⟨by simp (maxSteps := 5000000) -dsimp only [gr, Nat.reduceEqDiff, Nat.reduceLT, Nat.reduceAdd, Nat.reduceMod, Nat.reduceBEq, sid_mod, sid_ne1, sid_ne2, sid_inj], by simp (maxSteps := 5000000) -dsimp only [gr, Nat.reduceEqDiff, Nat.reduceLT, Nat.reduceAdd, Nat.reduceMod, Nat.reduceBEq, sid_mod, sid_ne1, sid_ne2, sid_inj], by simp (maxSteps := 5000000) -dsimp only [gr, Nat.reduceEqDiff, Nat.reduceLT, Nat.reduceAdd, Nat.reduceMod, Nat.reduceBEq, sid_mod, sid_ne1, sid_ne2, sid_inj]; rfl, by simp, by simp⟩ ?_
    intro i s1 ⟨h0, h1, h5, hi, hall⟩
    simp (maxSteps := 5000000) -dsimp only [↓gp, gq, reduceCtorEq, Nat.reduceEqDiff, Nat.reduceLT, Nat.reduceLeDiff, Nat.reduceAdd, Nat.reduceMul, Nat.reduceSub, Nat.reduceBEq, Int.reduceToNat, Int.reduceLE, Int.reduceLT, Int.reduceNeg, Nat.reduceMod, sid_ne1, sid_ne2, sid_inj, sid_mod, gT, TK.isInt, TK.agg, Array.toList, h0, h1, h5]
    refine ⟨fun h => ⟨by kernel_rfl, h, h, by omega, by omega, fun ha => ?_, fun ha => ?_⟩, fun h => ?_⟩
    · intro e
      simp [e] at ha
    · refine again_of (i + 1) ⟨by simp (maxSteps := 5000000) -dsimp only [gr, Nat.reduceEqDiff, Nat.reduceLT, Nat.reduceAdd, Nat.reduceMod, Nat.reduceBEq, sid_mod, sid_ne1, sid_ne2, sid_inj, h0], by simp (maxSteps := 5000000) -dsimp only [gr, Nat.reduceEqDiff, Nat.reduceLT, Nat.reduceAdd, Nat.reduceMod, Nat.reduceBEq, sid_mod, sid_ne1, sid_ne2, sid_inj, h1], by simp (maxSteps := 5000000) -dsimp only [gr, Nat.reduceEqDiff, Nat.reduceLT, Nat.reduceAdd, Nat.reduceMod, Nat.reduceBEq, sid_mod, sid_ne1, sid_ne2, sid_inj]; rw [wrap_nat h hl.1], h, ?_⟩ (by omega)
      rw [take_snoc 0 h, take_snoc 0 (show i < ys.length by omega), hall]
      simp at ha
      simpa using ha
    · rw [List.take_of_length_le (by omega), List.take_of_length_le (by omega)] at hall
      exact hall
theorem c_laws_toIntS (xs : List Int) (hx : xs.length ≤ 1048576) : AC Try.prog 70 [ints xs] (.fr 3 1 (iL xs)) := by
  refine AC.go (rs := [.tmp 2]) T_ok mixed Try.func70 rfl rfl rfl (by kernel_rfl) fun hl => ?_
  simp (maxSteps := 5000000) -dsimp only [↓gp, gq, reduceCtorEq, Nat.reduceEqDiff, Nat.reduceLT, Nat.reduceLeDiff, Nat.reduceAdd, Nat.reduceMul, Nat.reduceSub, Nat.reduceBEq, Int.reduceToNat, Int.reduceLE, Int.reduceLT, Int.reduceNeg, Nat.reduceMod, sid_ne1, sid_ne2, sid_inj, sid_mod, gT, TK.isInt, TK.agg, Array.toList]
  refine ⟨by omega, by omega, ?_⟩
  refine loop_of (fun (i : Nat) s => ∃ v, s.sl 0 = ints xs ∧ s.sl 3 = .own 7 v ∧ s.rw 7 = ⟨v, .sli 3 1 false (iL (xs.take i ++ List.replicate (xs.length - i) 0))⟩ ∧ s.sl 4 = int i ∧ i ≤ xs.length) (fun i => xs.length - i) 0 ⟨1, by simp (maxSteps := 5000000) -dsimp only [gr, Nat.reduceEqDiff, Nat.reduceLT, Nat.reduceAdd, Nat.reduceMod, Nat.reduceBEq, sid_mod, sid_ne1, sid_ne2, sid_inj], by simp (maxSteps := 5000000) -dsimp only [gr, Nat.reduceEqDiff, Nat.reduceLT, Nat.reduceAdd, Nat.reduceMod, Nat.reduceBEq, sid_mod, sid_ne1, sid_ne2, sid_inj], by simp (maxSteps := 5000000) -dsimp only [gr, Nat.reduceEqDiff, Nat.reduceLT, Nat.reduceAdd, Nat.reduceMod, Nat.reduceBEq, sid_mod, sid_ne1, sid_ne2, sid_inj]; simp, by simp (maxSteps := 5000000) -dsimp only [gr, Nat.reduceEqDiff, Nat.reduceLT, Nat.reduceAdd, Nat.reduceMod, Nat.reduceBEq, sid_mod, sid_ne1, sid_ne2, sid_inj]; rfl, by simp⟩ ?_
  intro i s1 ⟨v, h0, h3, h7, h4, hi⟩
  simp (maxSteps := 5000000) -dsimp only [↓gp, gq, reduceCtorEq, Nat.reduceEqDiff, Nat.reduceLT, Nat.reduceLeDiff, Nat.reduceAdd, Nat.reduceMul, Nat.reduceSub, Nat.reduceBEq, Int.reduceToNat, Int.reduceLE, Int.reduceLT, Int.reduceNeg, Nat.reduceMod, sid_ne1, sid_ne2, sid_inj, sid_mod, gT, TK.isInt, TK.agg, Array.toList, h0, h3, h7, h4]
  have hf := fill_length (xs := xs) (z := (0 : Int)) hi
  refine ⟨fun h => ⟨h, h, by omega, by omega, ?_⟩, fun h => ?_⟩
  · refine again_of (i + 1) ⟨v, by simp (maxSteps := 5000000) -dsimp only [gr, Nat.reduceEqDiff, Nat.reduceLT, Nat.reduceAdd, Nat.reduceMod, Nat.reduceBEq, sid_mod, sid_ne1, sid_ne2, sid_inj, h0], by simp (maxSteps := 5000000) -dsimp only [gr, Nat.reduceEqDiff, Nat.reduceLT, Nat.reduceAdd, Nat.reduceMod, Nat.reduceBEq, sid_mod, sid_ne1, sid_ne2, sid_inj, h3], by simp (maxSteps := 5000000) -dsimp only [gr, Nat.reduceEqDiff, Nat.reduceLT, Nat.reduceAdd, Nat.reduceMod, Nat.reduceBEq, sid_mod, sid_ne1, sid_ne2, sid_inj]; rw [set_fill 0 0 h], by simp (maxSteps := 5000000) -dsimp only [gr, Nat.reduceEqDiff, Nat.reduceLT, Nat.reduceAdd, Nat.reduceMod, Nat.reduceBEq, sid_mod, sid_ne1, sid_ne2, sid_inj]; rw [wrap_nat h (by omega)], h⟩ (by omega)
  · rw [List.take_of_length_le (by omega), show xs.length - i = 0 by omega]; simp
theorem c_laws_szIntS (xs : List Int) (n : Int) (h0 : 0 ≤ n) (h1 : n ≤ 1048576) : AC Try.prog 67 [ints xs, int n] (.im (int (if n - xs.length < 0 then -1 else n - xs.length))) := by
  refine AC.go (rs := [.tmp 4]) T_ok mixed Try.func67 rfl rfl rfl (by kernel_rfl) fun hl => ?_
  simp only [lens_cons, lens2_iL, lens_nil, and_true] at hl
  have hw : IntKind.i64.wrap (n - xs.length) = n - xs.length := wrap_id (by omega) (by have := hl.1; omega)
  simp (maxSteps := 5000000) -dsimp only [↓gp, gq, reduceCtorEq, Nat.reduceEqDiff, Nat.reduceLT, Nat.reduceLeDiff, Nat.reduceAdd, Nat.reduceMul, Nat.reduceSub, Nat.reduceBEq, Int.reduceToNat, Int.reduceLE, Int.reduceLT, Int.reduceNeg, Nat.reduceMod, sid_ne1, sid_ne2, sid_inj, sid_mod, gT, TK.isInt, TK.agg, Array.toList, hw]
  exact ⟨fun h => by simp [h], fun h => by simp [h]⟩
def szI (n : Int) (k : Nat) : Int := if n - k < 0 then -1 else n - k
end Go.Proofs.Ytnfpeinbdfmlnaa

namespace Go.Proofs.Ytnfpeinbdfmlnaa
open Go.Abs
set_option linter.unusedSimpArgs false
set_option linter.unusedVariables false
end Go.Proofs.Ytnfpeinbdfmlnaa

namespace Go.Proofs.Ytnfpeinbdfmlnaa
open Go.Abs
set_option linter.unusedSimpArgs false
set_option linter.unusedVariables false
theorem c_spec_l2Size (n : Nat) (h : n < 9223372036854775808) : AC Try.prog 66 [int n] (.im (int (popN n : Nat))) := by
  refine AC.go (rs := [.tmp 2]) T_ok mixed Try.func66 rfl rfl rfl (by kernel_rfl) fun hl => ?_
  simp (maxSteps := 5000000) -dsimp only [↓gp, gq, reduceCtorEq, Nat.reduceEqDiff, Nat.reduceLT, Nat.reduceLeDiff, Nat.reduceAdd, Nat.reduceMul, Nat.reduceSub, Nat.reduceBEq, Int.reduceToNat, Int.reduceLE, Int.reduceLT, Int.reduceNeg, Nat.reduceMod, sid_ne1, sid_ne2, sid_inj, sid_mod, gT, TK.isInt, TK.agg, Array.toList]
  refine loop_of (fun (x : Nat × Nat) s => s.sl 0 = int x.1 ∧ s.sl 3 = int x.2 ∧ x.1 ≤ n ∧ x.2 + popN x.1 = popN n) (fun x => x.1) (n, 0) ⟨by simp (maxSteps := 5000000) -dsimp only [gr, Nat.reduceEqDiff, Nat.reduceLT, Nat.reduceAdd, Nat.reduceMod, Nat.reduceBEq, sid_mod, sid_ne1, sid_ne2, sid_inj], by simp (maxSteps := 5000000) -dsimp only [gr, Nat.reduceEqDiff, Nat.reduceLT, Nat.reduceAdd, Nat.reduceMod, Nat.reduceBEq, sid_mod, sid_ne1, sid_ne2, sid_inj]; rfl, by simp, by simp⟩ ?_
  intro ⟨m, a⟩ s1 ⟨h0, h3, hm, hp⟩
  simp only at h0 h3 hm hp
  have hpl := popN_le n
  simp (maxSteps := 5000000) -dsimp only [↓gp, gq, reduceCtorEq, Nat.reduceEqDiff, Nat.reduceLT, Nat.reduceLeDiff, Nat.reduceAdd, Nat.reduceMul, Nat.reduceSub, Nat.reduceBEq, Int.reduceToNat, Int.reduceLE, Int.reduceLT, Int.reduceNeg, Nat.reduceMod, sid_ne1, sid_ne2, sid_inj, sid_mod, gT, TK.isInt, TK.agg, Array.toList, h0, h3, iand_one (show m < 9223372036854775808 by omega), ishr_one]
  refine ⟨fun h1 => ?_, fun h1 => ?_⟩
  · have hm0 : m ≠ 0 := by omega
    rw [popN_pos hm0] at hp
    refine again_of (m / 2, a + m % 2) ⟨by simp (maxSteps := 5000000) -dsimp only [gr, Nat.reduceEqDiff, Nat.reduceLT, Nat.reduceAdd, Nat.reduceMod, Nat.reduceBEq, sid_mod, sid_ne1, sid_ne2, sid_inj], ?_, by simp only; omega, by simp only; omega⟩ (by simp only; omega)
    simp (maxSteps := 5000000) -dsimp only [gr, Nat.reduceEqDiff, Nat.reduceLT, Nat.reduceAdd, Nat.reduceMod, Nat.reduceBEq, sid_mod, sid_ne1, sid_ne2, sid_inj]
    rw [wrap_id (by omega) (by omega)]
    rfl
  · have : m = 0 := by omega
    subst this
    rw [popN_zero] at hp
    omega
theorem c_spec_l2Sizei {s : Int} (h0 : 0 ≤ s) (h : s < 9223372036854775808) : AC Try.prog 66 [int s] (.im (int (popN s.toNat : Nat))) := by
  obtain ⟨m, rfl⟩ := Int.eq_ofNat_of_zero_le h0
  exact c_spec_l2Size m (by omega)
theorem c_bits_OnesCount64 (n : Nat) (h : n < 64) : AC Try.prog 172 [u64 n] (.im (int (popN n : Nat))) := by
  refine AC.go (rs := [.tmp 2]) T_ok mixed Try.func172 rfl rfl rfl (by kernel_rfl) fun hl => ?_
  simp (maxSteps := 5000000) -dsimp only [↓gp, gq, reduceCtorEq, Nat.reduceEqDiff, Nat.reduceLT, Nat.reduceLeDiff, Nat.reduceAdd, Nat.reduceMul, Nat.reduceSub, Nat.reduceBEq, Int.reduceToNat, Int.reduceLE, Int.reduceLT, Int.reduceNeg, Nat.reduceMod, sid_ne1, sid_ne2, sid_inj, sid_mod, gT, TK.isInt, TK.agg, Array.toList]
  rw [popN_6 h]
  clear hl
  obtain ⟨m, rfl⟩ : ∃ m : Fin 64, m.val = n := ⟨⟨n, h⟩, rfl⟩
  clear h
  revert m
  decide +kernel
theorem c_bits_OnesCount (n : Nat) (h : n < 64) : AC Try.prog 117 [u64 n] (.im (int (popN n : Nat))) := by
  refine AC.go (rs := [.tmp 2]) T_ok mixed Try.func117 rfl rfl rfl (by kernel_rfl) fun hl => ?_
  simp (maxSteps := 5000000) -dsimp only [↓gp, gq, reduceCtorEq, Nat.reduceEqDiff, Nat.reduceLT, Nat.reduceLeDiff, Nat.reduceAdd, Nat.reduceMul, Nat.reduceSub, Nat.reduceBEq, Int.reduceToNat, Int.reduceLE, Int.reduceLT, Int.reduceNeg, Nat.reduceMod, sid_ne1, sid_ne2, sid_inj, sid_mod, gT, TK.isInt, TK.agg, Array.toList]
  refine askK_of (c_bits_OnesCount64 n h) ?_
  simp (maxSteps := 5000000) -dsimp only [↓gp, gq, reduceCtorEq, Nat.reduceEqDiff, Nat.reduceLT, Nat.reduceLeDiff, Nat.reduceAdd, Nat.reduceMul, Nat.reduceSub, Nat.reduceBEq, Int.reduceToNat, Int.reduceLE, Int.reduceLT, Int.reduceNeg, Nat.reduceMod, sid_ne1, sid_ne2, sid_inj, sid_mod, gT, TK.isInt, TK.agg, Array.toList]
theorem c_impl_IsSet (n s : Int) : AC Try.prog 116 [int n, int s] (.im (bool (inSet n s))) := by
  refine AC.go (rs := [.tmp 4]) T_ok mixed Try.func116 rfl rfl rfl (by kernel_rfl) fun hl => ?_
  simp (maxSteps := 5000000) -dsimp only [↓gp, gq, reduceCtorEq, Nat.reduceEqDiff, Nat.reduceLT, Nat.reduceLeDiff, Nat.reduceAdd, Nat.reduceMul, Nat.reduceSub, Nat.reduceBEq, Int.reduceToNat, Int.reduceLE, Int.reduceLT, Int.reduceNeg, Nat.reduceMod, sid_ne1, sid_ne2, sid_inj, sid_mod, gT, TK.isInt, TK.agg, Array.toList, inSet]
  refine ⟨fun h0 => ⟨fun h6 => ⟨fun hs => ?_, fun hs => by omega⟩, fun h6 => by omega⟩, fun h0 => by omega⟩
  obtain ⟨m, rfl⟩ := Int.eq_ofNat_of_zero_le h0
  rw [uwrap_nat (by omega), ishl_small (by omega), pow_nat]
  exact ⟨by omega, by simp only [h0, h6, hs, true_and]⟩
theorem c_spec_IsSet (n s : Int) : AC Try.prog 149 [int n, int s] (.im (bool (inSet n s))) := by
  refine AC.go (rs := [.tmp 4]) T_ok mixed Try.func149 rfl rfl rfl (by kernel_rfl) fun hl => ?_
  simp (maxSteps := 5000000) -dsimp only [↓gp, gq, reduceCtorEq, Nat.reduceEqDiff, Nat.reduceLT, Nat.reduceLeDiff, Nat.reduceAdd, Nat.reduceMul, Nat.reduceSub, Nat.reduceBEq, Int.reduceToNat, Int.reduceLE, Int.reduceLT, Int.reduceNeg, Nat.reduceMod, sid_ne1, sid_ne2, sid_inj, sid_mod, gT, TK.isInt, TK.agg, Array.toList]
  refine askK_of (c_spec_l1In _ _ _) ?_
  simp (maxSteps := 5000000) -dsimp only [↓gp, gq, reduceCtorEq, Nat.reduceEqDiff, Nat.reduceLT, Nat.reduceLeDiff, Nat.reduceAdd, Nat.reduceMul, Nat.reduceSub, Nat.reduceBEq, Int.reduceToNat, Int.reduceLE, Int.reduceLT, Int.reduceNeg, Nat.reduceMod, sid_ne1, sid_ne2, sid_inj, sid_mod, gT, TK.isInt, TK.agg, Array.toList]
  refine ⟨fun h => ?_, fun h => ?_⟩
  · simp only [Bool.and_eq_true, decide_eq_true_eq] at h
    obtain ⟨h0, h6⟩ := h
    obtain ⟨m, rfl⟩ := Int.eq_ofNat_of_zero_le h0
    have hp := two_pow_le (m := m) (by omega)
    have e : inSet (m : Int) s = decide (0 ≤ s ∧ s < ((2 ^ m : Nat) : Int)) := by
      rw [inSet, pow_nat]
      simp only [h0, h6, true_and]
    rw [e, uwrap_nat (by omega), ishl_small (by omega)]
    generalize (2 ^ m : Nat) = q at hp
    rw [wrap_id (by omega) (by omega)]
    refine ⟨by omega, askK_of (c_spec_l1In _ _ _) ?_⟩
    simp (maxSteps := 5000000) -dsimp only [↓gp, gq, reduceCtorEq, Nat.reduceEqDiff, Nat.reduceLT, Nat.reduceLeDiff, Nat.reduceAdd, Nat.reduceMul, Nat.reduceSub, Nat.reduceBEq, Int.reduceToNat, Int.reduceLE, Int.reduceLT, Int.reduceNeg, Nat.reduceMod, sid_ne1, sid_ne2, sid_inj, sid_mod, gT, TK.isInt, TK.agg, Array.toList]
    rw [← Bool.decide_and]
    exact decide_eq_decide.2 (by omega)
  · refine decide_eq_false fun hh => ?_
    simp [hh.1, hh.2.1] at h
def szOf (s : Int) : Int := if 0 ≤ s ∧ s < 64 then (popN s.toNat : Nat) else -1
theorem inSet_6 (s : Int) : inSet 6 s = decide (0 ≤ s ∧ s < 64) := by
  simp [inSet]
theorem c_impl_SizeOf (s : Int) : AC Try.prog 76 [int s] (.im (int (szOf s))) := by
  refine AC.go (rs := [.tmp 2]) T_ok mixed Try.func76 rfl rfl rfl (by kernel_rfl) fun hl => ?_
  simp (maxSteps := 5000000) -dsimp only [↓gp, gq, reduceCtorEq, Nat.reduceEqDiff, Nat.reduceLT, Nat.reduceLeDiff, Nat.reduceAdd, Nat.reduceMul, Nat.reduceSub, Nat.reduceBEq, Int.reduceToNat, Int.reduceLE, Int.reduceLT, Int.reduceNeg, Nat.reduceMod, sid_ne1, sid_ne2, sid_inj, sid_mod, gT, TK.isInt, TK.agg, Array.toList]
  refine askK_of (c_impl_IsSet _ _) ?_
  simp (maxSteps := 5000000) -dsimp only [↓gp, gq, reduceCtorEq, Nat.reduceEqDiff, Nat.reduceLT, Nat.reduceLeDiff, Nat.reduceAdd, Nat.reduceMul, Nat.reduceSub, Nat.reduceBEq, Int.reduceToNat, Int.reduceLE, Int.reduceLT, Int.reduceNeg, Nat.reduceMod, sid_ne1, sid_ne2, sid_inj, sid_mod, gT, TK.isInt, TK.agg, Array.toList, inSet_6]
  refine ⟨fun h => ?_, fun h => ?_⟩
  · have h : ¬ (0 ≤ s ∧ s < 64) := by simp at h; omega
    rw [szOf, if_neg h]
  · have h : 0 ≤ s ∧ s < 64 := by simpa using h
    obtain ⟨m, rfl⟩ := Int.eq_ofNat_of_zero_le h.1
    rw [uwrap_nat (by omega)]
    refine askK_of (c_bits_OnesCount m (by omega)) ?_
    simp (maxSteps := 5000000) -dsimp only [↓gp, gq, reduceCtorEq, Nat.reduceEqDiff, Nat.reduceLT, Nat.reduceLeDiff, Nat.reduceAdd, Nat.reduceMul, Nat.reduceSub, Nat.reduceBEq, Int.reduceToNat, Int.reduceLE, Int.reduceLT, Int.reduceNeg, Nat.reduceMod, sid_ne1, sid_ne2, sid_inj, sid_mod, gT, TK.isInt, TK.agg, Array.toList]
    rw [szOf, if_pos h]; rfl
def befS (a b : Int) : Bool := decide (0 ≤ a ∧ a < 64) && (decide (0 ≤ b ∧ b < 64) && (if szOf a = szOf b then decide (a < b) else decide (szOf a < szOf b)))
theorem c_impl_BeforeSet (a b : Int) : AC Try.prog 170 [int a, int b] (.im (bool (befS a b))) := by
  refine AC.go (rs := [.tmp 4]) T_ok mixed Try.func170 rfl rfl rfl (by kernel_rfl) fun hl => ?_
  simp (maxSteps := 5000000) -dsimp only [↓gp, gq, reduceCtorEq, Nat.reduceEqDiff, Nat.reduceLT, Nat.reduceLeDiff, Nat.reduceAdd, Nat.reduceMul, Nat.reduceSub, Nat.reduceBEq, Int.reduceToNat, Int.reduceLE, Int.reduceLT, Int.reduceNeg, Nat.reduceMod, sid_ne1, sid_ne2, sid_inj, sid_mod, gT, TK.isInt, TK.agg, Array.toList]
  refine askK_of (c_impl_IsSet _ _) ?_
  simp (maxSteps := 5000000) -dsimp only [↓gp, gq, reduceCtorEq, Nat.reduceEqDiff, Nat.reduceLT, Nat.reduceLeDiff, Nat.reduceAdd, Nat.reduceMul, Nat.reduceSub, Nat.reduceBEq, Int.reduceToNat, Int.reduceLE, Int.reduceLT, Int.reduceNeg, Nat.reduceMod, sid_ne1, sid_ne2, sid_inj, sid_mod, gT, TK.isInt, TK.agg, Array.toList, inSet_6]
  unfold befS
  refine ⟨fun h => askK_of (c_impl_IsSet _ _) ?_, fun h => ?_⟩
  · have ha : decide (0 ≤ a ∧ a < 64) = true := by simpa using h
    simp (maxSteps := 5000000) -dsimp only [↓gp, gq, reduceCtorEq, Nat.reduceEqDiff, Nat.reduceLT, Nat.reduceLeDiff, Nat.reduceAdd, Nat.reduceMul, Nat.reduceSub, Nat.reduceBEq, Int.reduceToNat, Int.reduceLE, Int.reduceLT, Int.reduceNeg, Nat.reduceMod, sid_ne1, sid_ne2, sid_inj, sid_mod, gT, TK.isInt, TK.agg, Array.toList, inSet_6]
    rw [ha]
    refine ⟨fun hb => ?_, fun hb => ?_⟩
    · have hb : decide (0 ≤ b ∧ b < 64) = false := by rwa [Bool.not_eq_true'] at hb
      rw [hb]; rfl
    · have hb : decide (0 ≤ b ∧ b < 64) = true := by simpa using hb
      rw [hb]
      refine askK_of (c_impl_SizeOf a) ?_
      simp (maxSteps := 5000000) -dsimp only [↓gp, gq, reduceCtorEq, Nat.reduceEqDiff, Nat.reduceLT, Nat.reduceLeDiff, Nat.reduceAdd, Nat.reduceMul, Nat.reduceSub, Nat.reduceBEq, Int.reduceToNat, Int.reduceLE, Int.reduceLT, Int.reduceNeg, Nat.reduceMod, sid_ne1, sid_ne2, sid_inj, sid_mod, gT, TK.isInt, TK.agg, Array.toList]
      refine askK_of (c_impl_SizeOf b) ?_
      simp (maxSteps := 5000000) -dsimp only [↓gp, gq, reduceCtorEq, Nat.reduceEqDiff, Nat.reduceLT, Nat.reduceLeDiff, Nat.reduceAdd, Nat.reduceMul, Nat.reduceSub, Nat.reduceBEq, Int.reduceToNat, Int.reduceLE, Int.reduceLT, Int.reduceNeg, Nat.reduceMod, sid_ne1, sid_ne2, sid_inj, sid_mod, gT, TK.isInt, TK.agg, Array.toList]
      refine ⟨fun hs => askK_of (c_impl_SizeOf a) ?_, fun hs => ?_⟩
      · simp (maxSteps := 5000000) -dsimp only [↓gp, gq, reduceCtorEq, Nat.reduceEqDiff, Nat.reduceLT, Nat.reduceLeDiff, Nat.reduceAdd, Nat.reduceMul, Nat.reduceSub, Nat.reduceBEq, Int.reduceToNat, Int.reduceLE, Int.reduceLT, Int.reduceNeg, Nat.reduceMod, sid_ne1, sid_ne2, sid_inj, sid_mod, gT, TK.isInt, TK.agg, Array.toList]
        refine askK_of (c_impl_SizeOf b) ?_
        simp (maxSteps := 5000000) -dsimp only [↓gp, gq, reduceCtorEq, Nat.reduceEqDiff, Nat.reduceLT, Nat.reduceLeDiff, Nat.reduceAdd, Nat.reduceMul, Nat.reduceSub, Nat.reduceBEq, Int.reduceToNat, Int.reduceLE, Int.reduceLT, Int.reduceNeg, Nat.reduceMod, sid_ne1, sid_ne2, sid_inj, sid_mod, gT, TK.isInt, TK.agg, Array.toList]
        have hs : ¬ szOf a = szOf b := by simpa using hs
        rw [if_neg hs]
      · have hs : szOf a = szOf b := by simpa using hs
        rw [if_pos hs]
  · have ha : decide (0 ≤ a ∧ a < 64) = false := by rwa [Bool.not_eq_true'] at h
    rw [ha]; rfl
end Go.Proofs.Ytnfpeinbdfmlnaa

namespace Go.Proofs.Ytnfpeinbdfmlnaa
open Go.Abs
set_option linter.unusedSimpArgs false
set_option linter.unusedVariables false

end Go.Proofs.Ytnfpeinbdfmlnaa

namespace Go.Proofs.Ytnfpeinbdfmlnaa
open Go.Abs
set_option linter.unusedSimpArgs false
set_option linter.unusedVariables false
end Go.Proofs.Ytnfpeinbdfmlnaa

namespace Go.Proofs.Ytnfpeinbdfmlnaa
open Go.Abs
set_option linter.unusedSimpArgs false
set_option linter.unusedVariables false
theorem szI_le {n : Int} {k : Nat} (h1 : n ≤ 1048576) (h : ¬ szI n k < 0) : 0 ≤ szI n k ∧ szI n k ≤ 1048576 ∧ k ≤ 1048576 := by
  unfold szI at h ⊢
  split at h
  · simp at h
  · rename_i h2
    rw [if_neg h2]
    omega
/-- Two numbered lists are one. -/
def sameG (n : Int) (xs : List Int) (m : Int) (ys : List Int) : Bool := n == m && decide (xs = ys)
end Go.Proofs.Ytnfpeinbdfmlnaa

namespace Go.Proofs.Ytnfpeinbdfmlnaa
open Go.Abs
set_option linter.unusedSimpArgs false
set_option linter.unusedVariables false

theorem sameG_refl (n : Int) (xs : List Int) : sameG n xs n xs = true := by simp [sameG]
theorem c_slices_Clone (xs : List Int) (hx : xs.length ≤ 1048576) : AC Try.prog 136 [ints xs] (.fr 3 1 (iL xs)) := by
  refine AC.go (rs := [.tmp 2]) T_ok mixed Try.func136 rfl rfl rfl (by kernel_rfl) fun hl => ?_
  simp (maxSteps := 5000000) -dsimp only [↓gp, gq, reduceCtorEq, Nat.reduceEqDiff, Nat.reduceLT, Nat.reduceLeDiff, Nat.reduceAdd, Nat.reduceMul, Nat.reduceSub, Nat.reduceBEq, Int.reduceToNat, Int.reduceLE, Int.reduceLT, Int.reduceNeg, Nat.reduceMod, sid_ne1, sid_ne2, sid_inj, sid_mod, gT, TK.isInt, TK.agg, Array.toList]
  exact ⟨by omega, fun h => h.symm⟩
/-- Numbers from one on. -/
def mks (k : Int) (n : Nat) : List Int := (List.range n).map fun i : Nat => k + (i : Int)
theorem mks_length (k : Int) (n : Nat) : (mks k n).length = n := by simp [mks]
theorem mks_getD (k : Int) {n i : Nat} (h : i < n) : (mks k n).getD i 0 = k + i := by simp [mks, List.getD, h]
theorem mks_set (k : Int) (xs : List Int) {i : Nat} (h : i < xs.length) : (mks k i ++ xs.drop i).set i (k + i) = mks k (i + 1) ++ xs.drop (i + 1) := by
  have hl : (mks k i).length = i := mks_length k i
  rw [List.set_append_right _ _ (by omega), hl, Nat.sub_self]
  have e : xs.drop i = xs[i] :: xs.drop (i + 1) := by rw [List.drop_eq_getElem_cons h]
  rw [e, List.set_cons_zero]
  simp [mks, List.range_succ]
theorem c_laws_markIntS (xs : List Int) (k : Int) (hx : xs.length ≤ 1152921504606846976) (k0 : 0 ≤ k) (k1 : k ≤ 1152921504606846976) : AM Try.prog 22 [.own 1000000 1, int k] [⟨3, 1, iL xs⟩] [iL (mks k xs.length)] (.int .i64 (k + xs.length)) := by
  refine AM.go (rs := [.tmp 4]) T_ok mixed Try.func22 rfl rfl rfl (by kernel_rfl) (plainR_cons (plain_iL _) plainR_nil) (plains_cons (plain_iL _) plains_nil) rfl fun hl => ?_
  simp (maxSteps := 5000000) -dsimp only [↓gp, gq, reduceCtorEq, Nat.reduceEqDiff, Nat.reduceLT, Nat.reduceLeDiff, Nat.reduceAdd, Nat.reduceMul, Nat.reduceSub, Nat.reduceBEq, Int.reduceToNat, Int.reduceLE, Int.reduceLT, Int.reduceNeg, Nat.reduceMod, sid_ne1, sid_ne2, sid_inj, sid_mod, gT, TK.isInt, TK.agg, Array.toList]
  refine loop_of (fun (i : Nat) s => s.sl 0 = .own 1000000 1 ∧ s.rw 1000000 = ⟨1, .sli 3 1 false (iL (mks k i ++ xs.drop i))⟩ ∧ s.sl 1 = int (k + i) ∧ s.sl 5 = int i ∧ i ≤ xs.length) (fun i => xs.length - i) 0 ⟨by simp (maxSteps := 5000000) -dsimp only [gr, Nat.reduceEqDiff, Nat.reduceLT, Nat.reduceAdd, Nat.reduceMod, Nat.reduceBEq, sid_mod, sid_ne1, sid_ne2, sid_inj], by simp (maxSteps := 5000000) -dsimp only [gr, Nat.reduceEqDiff, Nat.reduceLT, Nat.reduceAdd, Nat.reduceMod, Nat.reduceBEq, sid_mod, sid_ne1, sid_ne2, sid_inj]; simp [mks], by simp (maxSteps := 5000000) -dsimp only [gr, Nat.reduceEqDiff, Nat.reduceLT, Nat.reduceAdd, Nat.reduceMod, Nat.reduceBEq, sid_mod, sid_ne1, sid_ne2, sid_inj]; simp, by simp (maxSteps := 5000000) -dsimp only [gr, Nat.reduceEqDiff, Nat.reduceLT, Nat.reduceAdd, Nat.reduceMod, Nat.reduceBEq, sid_mod, sid_ne1, sid_ne2, sid_inj]; rfl, by simp⟩ ?_
  intro i s1 ⟨h0, r0, h1, h5, hi⟩
  have hlen : (mks k i ++ xs.drop i).length = xs.length := by simp [mks_length]; omega
  simp (maxSteps := 5000000) -dsimp only [↓gp, gq, reduceCtorEq, Nat.reduceEqDiff, Nat.reduceLT, Nat.reduceLeDiff, Nat.reduceAdd, Nat.reduceMul, Nat.reduceSub, Nat.reduceBEq, Int.reduceToNat, Int.reduceLE, Int.reduceLT, Int.reduceNeg, Nat.reduceMod, sid_ne1, sid_ne2, sid_inj, sid_mod, gT, TK.isInt, TK.agg, Array.toList, h0, r0, h1, h5, hlen]
  refine ⟨fun h => ⟨by omega, by omega, again_of (i + 1) ⟨by simp (maxSteps := 5000000) -dsimp only [gr, Nat.reduceEqDiff, Nat.reduceLT, Nat.reduceAdd, Nat.reduceMod, Nat.reduceBEq, sid_mod, sid_ne1, sid_ne2, sid_inj, h0], by simp (maxSteps := 5000000) -dsimp only [gr, Nat.reduceEqDiff, Nat.reduceLT, Nat.reduceAdd, Nat.reduceMod, Nat.reduceBEq, sid_mod, sid_ne1, sid_ne2, sid_inj, r0]; rw [mks_set k xs h], ?_, ?_, by omega⟩ (by omega)⟩, fun h => ?_⟩
  · simp (maxSteps := 5000000) -dsimp only [gr, Nat.reduceEqDiff, Nat.reduceLT, Nat.reduceAdd, Nat.reduceMod, Nat.reduceBEq, sid_mod, sid_ne1, sid_ne2, sid_inj]
    rw [wrap_id (by omega) (by omega)]; congr 2; omega
  · simp (maxSteps := 5000000) -dsimp only [gr, Nat.reduceEqDiff, Nat.reduceLT, Nat.reduceAdd, Nat.reduceMod, Nat.reduceBEq, sid_mod, sid_ne1, sid_ne2, sid_inj]
    rw [wrap_nat h (by omega)]
  · obtain rfl : i = xs.length := by omega
    simp
theorem c_laws_heldIntS (k : Int) (n : Nat) (hn : n ≤ 1152921504606846976) (k0 : 0 ≤ k) (k1 : k ≤ 1152921504606846976) : AC Try.prog 23 [ints (mks k n), int k] (.im (int (k + n))) := by
  refine AC.go (rs := [.tmp 4]) T_ok mixed Try.func23 rfl rfl rfl (by kernel_rfl) fun hl => ?_
  simp (maxSteps := 5000000) -dsimp only [↓gp, gq, reduceCtorEq, Nat.reduceEqDiff, Nat.reduceLT, Nat.reduceLeDiff, Nat.reduceAdd, Nat.reduceMul, Nat.reduceSub, Nat.reduceBEq, Int.reduceToNat, Int.reduceLE, Int.reduceLT, Int.reduceNeg, Nat.reduceMod, sid_ne1, sid_ne2, sid_inj, sid_mod, gT, TK.isInt, TK.agg, Array.toList]
  refine loop_of (fun (i : Nat) s => s.sl 0 = ints (mks k n) ∧ s.sl 1 = int (k + i) ∧ s.sl 5 = int i ∧ i ≤ n) (fun i => n - i) 0 ⟨by simp (maxSteps := 5000000) -dsimp only [gr, Nat.reduceEqDiff, Nat.reduceLT, Nat.reduceAdd, Nat.reduceMod, Nat.reduceBEq, sid_mod, sid_ne1, sid_ne2, sid_inj], by simp (maxSteps := 5000000) -dsimp only [gr, Nat.reduceEqDiff, Nat.reduceLT, Nat.reduceAdd, Nat.reduceMod, Nat.reduceBEq, sid_mod, sid_ne1, sid_ne2, sid_inj]; simp, by simp (maxSteps := 5000000) -dsimp only [gr, Nat.reduceEqDiff, Nat.reduceLT, Nat.reduceAdd, Nat.reduceMod, Nat.reduceBEq, sid_mod, sid_ne1, sid_ne2, sid_inj]; rfl, by simp⟩ ?_
  intro i s1 ⟨h0, h1, h5, hi⟩
  simp (maxSteps := 5000000) -dsimp only [↓gp, gq, reduceCtorEq, Nat.reduceEqDiff, Nat.reduceLT, Nat.reduceLeDiff, Nat.reduceAdd, Nat.reduceMul, Nat.reduceSub, Nat.reduceBEq, Int.reduceToNat, Int.reduceLE, Int.reduceLT, Int.reduceNeg, Nat.reduceMod, sid_ne1, sid_ne2, sid_inj, sid_mod, gT, TK.isInt, TK.agg, Array.toList, h0, h1, h5, mks_length]
  refine ⟨fun h => ⟨h, h, fun hc => ?_, fun hc => again_of (i + 1) ⟨by simp (maxSteps := 5000000) -dsimp only [gr, Nat.reduceEqDiff, Nat.reduceLT, Nat.reduceAdd, Nat.reduceMod, Nat.reduceBEq, sid_mod, sid_ne1, sid_ne2, sid_inj, h0], ?_, ?_, by omega⟩ (by omega)⟩, fun h => ?_⟩
  · rw [mks_getD k h] at hc
    simp at hc
  · simp (maxSteps := 5000000) -dsimp only [gr, Nat.reduceEqDiff, Nat.reduceLT, Nat.reduceAdd, Nat.reduceMod, Nat.reduceBEq, sid_mod, sid_ne1, sid_ne2, sid_inj]
    rw [wrap_id (by omega) (by omega)]; congr 2; omega
  · simp (maxSteps := 5000000) -dsimp only [gr, Nat.reduceEqDiff, Nat.reduceLT, Nat.reduceAdd, Nat.reduceMod, Nat.reduceBEq, sid_mod, sid_ne1, sid_ne2, sid_inj]
    rw [wrap_nat h (by omega)]
  · obtain rfl : i = n := by omega
    rfl
theorem c_laws_markIdeal (n : Int) (xs : List Int) (k : Int) (hx : xs.length ≤ 1152921504606846976) (k0 : 0 ≤ k) (k1 : k ≤ 1152921504606846976) : AM Try.prog 34 [.ag [int n, .own 1000000 1], int k] [⟨3, 1, iL xs⟩] [iL (mks k xs.length)] (.int .i64 (k + xs.length)) := by
  refine AM.go (rs := [.tmp 4]) T_ok mixed Try.func34 rfl rfl rfl (by kernel_rfl) (plainR_cons (plain_iL _) plainR_nil) (plains_cons (plain_iL _) plains_nil) rfl fun hl => ?_
  simp (maxSteps := 5000000) -dsimp only [↓gp, gq, reduceCtorEq, Nat.reduceEqDiff, Nat.reduceLT, Nat.reduceLeDiff, Nat.reduceAdd, Nat.reduceMul, Nat.reduceSub, Nat.reduceBEq, Int.reduceToNat, Int.reduceLE, Int.reduceLT, Int.reduceNeg, Nat.reduceMod, sid_ne1, sid_ne2, sid_inj, sid_mod, gT, TK.isInt, TK.agg, Array.toList]
  refine askM_of (c_laws_markIntS xs k hx k0 k1) [(1000000, 1)] (by repeat (first | exact GiveL.nil | refine GiveL.v ?_ | refine GiveL.own 0 rfl ?_ | refine GiveL.own 1 rfl ?_ | refine GiveL.ag ?_ ?_)) ⟨by simp (maxSteps := 5000000) -dsimp only [gr, Nat.reduceEqDiff, Nat.reduceLT, Nat.reduceAdd, Nat.reduceMod, Nat.reduceBEq, sid_mod, sid_ne1, sid_ne2, sid_inj], trivial⟩ (by decide) ?_
  simp (maxSteps := 5000000) -dsimp only [↓gp, gq, reduceCtorEq, Nat.reduceEqDiff, Nat.reduceLT, Nat.reduceLeDiff, Nat.reduceAdd, Nat.reduceMul, Nat.reduceSub, Nat.reduceBEq, Int.reduceToNat, Int.reduceLE, Int.reduceLT, Int.reduceNeg, Nat.reduceMod, sid_ne1, sid_ne2, sid_inj, sid_mod, gT, TK.isInt, TK.agg, Array.toList]
theorem c_laws_eqIdeal (n m : Int) (xs ys : List Int) : AC Try.prog 33 [.ag [int n, ints xs], .ag [int m, ints ys]] (.im (bool (sameG n xs m ys))) := by
  refine AC.go (rs := [.tmp 4]) T_ok mixed Try.func33 rfl rfl rfl (by kernel_rfl) fun hl => ?_
  simp (maxSteps := 5000000) -dsimp only [↓gp, gq, reduceCtorEq, Nat.reduceEqDiff, Nat.reduceLT, Nat.reduceLeDiff, Nat.reduceAdd, Nat.reduceMul, Nat.reduceSub, Nat.reduceBEq, Int.reduceToNat, Int.reduceLE, Int.reduceLT, Int.reduceNeg, Nat.reduceMod, sid_ne1, sid_ne2, sid_inj, sid_mod, gT, TK.isInt, TK.agg, Array.toList]
  unfold sameG
  refine ⟨fun h => ?_, fun h => askK_of (c_laws_eqIntS xs ys) ?_⟩
  · simp at h
    simp [h]
  · simp (maxSteps := 5000000) -dsimp only [↓gp, gq, reduceCtorEq, Nat.reduceEqDiff, Nat.reduceLT, Nat.reduceLeDiff, Nat.reduceAdd, Nat.reduceMul, Nat.reduceSub, Nat.reduceBEq, Int.reduceToNat, Int.reduceLE, Int.reduceLT, Int.reduceNeg, Nat.reduceMod, sid_ne1, sid_ne2, sid_inj, sid_mod, gT, TK.isInt, TK.agg, Array.toList]
    simp at h
    exact ⟨fun h2 => by simpa [h] using h2, fun h2 => by simpa [h] using h2⟩
end Go.Proofs.Ytnfpeinbdfmlnaa

namespace Go.Proofs.Ytnfpeinbdfmlnaa
open Go.Abs
set_option linter.unusedSimpArgs false
set_option linter.unusedVariables false

end Go.Proofs.Ytnfpeinbdfmlnaa

namespace Go.Proofs.Ytnfpeinbdfmlnaa
open Go.Abs
set_option linter.unusedSimpArgs false
set_option linter.unusedVariables false

end Go.Proofs.Ytnfpeinbdfmlnaa

namespace Go.Proofs.Ytnfpeinbdfmlnaa
open Go.Abs
set_option linter.unusedSimpArgs false
set_option linter.unusedVariables false

def allP (l : List (List Int)) : Bool := l.all isPow
end Go.Proofs.Ytnfpeinbdfmlnaa

namespace Go.Proofs.Ytnfpeinbdfmlnaa
open Go.Abs
set_option linter.unusedSimpArgs false
set_option linter.unusedVariables false

end Go.Proofs.Ytnfpeinbdfmlnaa

namespace Go.Proofs.Ytnfpeinbdfmlnaa
open Go.Abs
set_option linter.unusedSimpArgs false
set_option linter.unusedVariables false

end Go.Proofs.Ytnfpeinbdfmlnaa

namespace Go.Proofs.Ytnfpeinbdfmlnaa
open Go.Abs
set_option linter.unusedSimpArgs false
set_option linter.unusedVariables false

/-- A list of sets as a family. -/
noncomputable def inF (xs : List Int) (s : Nat) : Bool := decide ((s : Int) ∈ xs)
end Go.Proofs.Ytnfpeinbdfmlnaa

namespace Go.Proofs.Ytnfpeinbdfmlnaa
open Go.Abs
set_option linter.unusedSimpArgs false
set_option linter.unusedVariables false

end Go.Proofs.Ytnfpeinbdfmlnaa

namespace Go.Proofs.Ytnfpeinbdfmlnaa
open Go.Abs
set_option linter.unusedSimpArgs false
set_option linter.unusedVariables false

theorem c_spec_l2Has (xs : List Int) (n : Int) : AC Try.prog 91 [ints xs, int n] (.im (bool (decide (n ∈ xs)))) := by
  refine AC.go (rs := [.tmp 4]) T_ok mixed Try.func91 rfl rfl rfl (by kernel_rfl) fun hl => ?_
  simp only [lens_cons, lens_nil, and_true, lens2_iL, lens2_v] at hl
  simp (maxSteps := 5000000) -dsimp only [↓gp, gq, reduceCtorEq, Nat.reduceEqDiff, Nat.reduceLT, Nat.reduceLeDiff, Nat.reduceAdd, Nat.reduceMul, Nat.reduceSub, Nat.reduceBEq, Int.reduceToNat, Int.reduceLE, Int.reduceLT, Int.reduceNeg, Nat.reduceMod, sid_ne1, sid_ne2, sid_inj, sid_mod, gT, TK.isInt, TK.agg, Array.toList]
  refine loop_of (fun (k : Nat) s => s.sl 0 = ints xs ∧ s.sl 1 = int n ∧ s.sl 5 = int k ∧ (k ≤ xs.length ∧ ∀ i, i < k → xs.getD i 0 ≠ n)) (fun k => xs.length - k) (0) (by refine ⟨?_, ?_, ?_, by simp⟩ <;> (first | (simp (maxSteps := 5000000) -dsimp only [gr, Nat.reduceEqDiff, Nat.reduceLT, Nat.reduceAdd, Nat.reduceMod, Nat.reduceBEq, sid_mod, sid_ne1, sid_ne2, sid_inj]; first | done | rfl | (simp; done)) | assumption | rfl)) ?_
  intro k sa ⟨h0a, h1a, h5a, hIa⟩
  obtain ⟨hk, hall⟩ := hIa
  simp (maxSteps := 5000000) -dsimp only [↓gp, gq, reduceCtorEq, Nat.reduceEqDiff, Nat.reduceLT, Nat.reduceLeDiff, Nat.reduceAdd, Nat.reduceMul, Nat.reduceSub, Nat.reduceBEq, Int.reduceToNat, Int.reduceLE, Int.reduceLT, Int.reduceNeg, Nat.reduceMod, sid_ne1, sid_ne2, sid_inj, sid_mod, gT, TK.isInt, TK.agg, Array.toList, h0a, h1a, h5a]
  refine ⟨fun h => ⟨h, h, fun he => ?_, fun he => again_of (k + 1) ⟨(by (first | (simp (maxSteps := 5000000) -dsimp only [gr, Nat.reduceEqDiff, Nat.reduceLT, Nat.reduceAdd, Nat.reduceMod, Nat.reduceBEq, sid_mod, sid_ne1, sid_ne2, sid_inj, h0a, h1a, h5a, wrap_nat h hl]; first | done | rfl | (simp; done)) | assumption | rfl)), (by (first | (simp (maxSteps := 5000000) -dsimp only [gr, Nat.reduceEqDiff, Nat.reduceLT, Nat.reduceAdd, Nat.reduceMod, Nat.reduceBEq, sid_mod, sid_ne1, sid_ne2, sid_inj, h0a, h1a, h5a, wrap_nat h hl]; first | done | rfl | (simp; done)) | assumption | rfl)), (by (first | (simp (maxSteps := 5000000) -dsimp only [gr, Nat.reduceEqDiff, Nat.reduceLT, Nat.reduceAdd, Nat.reduceMod, Nat.reduceBEq, sid_mod, sid_ne1, sid_ne2, sid_inj, h0a, h1a, h5a, wrap_nat h hl]; first | done | rfl | (simp; done)) | assumption | rfl)), ⟨by omega, fun i hi => ?_⟩⟩ (by first | omega | (simp only; omega) | (dsimp only; omega) | (show _ < _; simp; omega))⟩, fun h => ?_⟩
  · have he : xs.getD k 0 = n := by simpa using he
    rw [← he]
    exact getD_mem 0 h
  · rcases Nat.lt_succ_iff_lt_or_eq.1 hi with hi | rfl
    · exact hall i hi
    · simpa using he
  · intro hm
    obtain ⟨i, hi, he⟩ := mem_getD 0 hm
    exact hall i (by omega) he
theorem c_spec_l2Before {a b : Int} (ha : 0 ≤ a ∧ a < 64) (hb : 0 ≤ b ∧ b < 64) : AC Try.prog 150 [int a, int b] (.im (bool (befS a b))) := by
  refine AC.go (rs := [.tmp 4]) T_ok mixed Try.func150 rfl rfl rfl (by kernel_rfl) fun hl => ?_
  simp (maxSteps := 5000000) -dsimp only [↓gp, gq, reduceCtorEq, Nat.reduceEqDiff, Nat.reduceLT, Nat.reduceLeDiff, Nat.reduceAdd, Nat.reduceMul, Nat.reduceSub, Nat.reduceBEq, Int.reduceToNat, Int.reduceLE, Int.reduceLT, Int.reduceNeg, Nat.reduceMod, sid_ne1, sid_ne2, sid_inj, sid_mod, gT, TK.isInt, TK.agg, Array.toList]
  refine askK_of (c_spec_l2Sizei ha.1 (by omega)) ?_
  simp (maxSteps := 5000000) -dsimp only [↓gp, gq, reduceCtorEq, Nat.reduceEqDiff, Nat.reduceLT, Nat.reduceLeDiff, Nat.reduceAdd, Nat.reduceMul, Nat.reduceSub, Nat.reduceBEq, Int.reduceToNat, Int.reduceLE, Int.reduceLT, Int.reduceNeg, Nat.reduceMod, sid_ne1, sid_ne2, sid_inj, sid_mod, gT, TK.isInt, TK.agg, Array.toList]
  refine askK_of (c_spec_l2Sizei hb.1 (by omega)) ?_
  simp (maxSteps := 5000000) -dsimp only [↓gp, gq, reduceCtorEq, Nat.reduceEqDiff, Nat.reduceLT, Nat.reduceLeDiff, Nat.reduceAdd, Nat.reduceMul, Nat.reduceSub, Nat.reduceBEq, Int.reduceToNat, Int.reduceLE, Int.reduceLT, Int.reduceNeg, Nat.reduceMod, sid_ne1, sid_ne2, sid_inj, sid_mod, gT, TK.isInt, TK.agg, Array.toList]
  unfold befS szOf
  rw [if_pos ha, if_pos hb, decide_eq_true ha, decide_eq_true hb]
  simp only [Bool.true_and]
  refine ⟨fun h => ⟨fun h2 => ?_, fun h2 => ?_⟩, fun h => ?_⟩
  · rw [if_pos (by simpa using h2)]
  · rw [if_neg (by simpa using h2)]
    exact decide_eq_false (by omega)
  · rw [if_neg (by omega)]
    exact decide_eq_true (by omega)
/-- Sets of a number of points, none within another, in order. -/
def cxAt (n : Int) (xs : List Int) (k : Nat) : Prop := inSet n (xs.getD k 0) = true ∧ (0 < k → befS (xs.getD (k - 1) 0) (xs.getD k 0) = true) ∧ ∀ i, i < k → iand .i64 (xs.getD i 0) (xs.getD k 0) ≠ xs.getD i 0
def cxP (n : Int) (xs : List Int) : Prop := 1 ≤ n ∧ n ≤ 6 ∧ ∀ k, k < xs.length → cxAt n xs k
open Classical in
noncomputable def isCx (n : Int) (xs : List Int) : Bool := decide (cxP n xs)
open Classical in
theorem isCx_no {n : Int} {xs : List Int} (h : ¬ cxP n xs) : isCx n xs = false := decide_eq_false h
open Classical in
theorem isCx_yes {n : Int} {xs : List Int} (h : cxP n xs) : isCx n xs = true := decide_eq_true h
open Classical in
theorem isCx_iff {n : Int} {xs : List Int} : isCx n xs = true ↔ cxP n xs := decide_eq_true_iff
theorem c_spec_IsComplex (n : Int) (xs : List Int) : AC Try.prog 99 [.ag [int n, ints xs]] (.im (bool (isCx n xs))) := by
  refine AC.go (rs := [.tmp 2]) T_ok mixed Try.func99 rfl rfl rfl (by kernel_rfl) fun hl => ?_
  simp only [lens_cons, lens_nil, and_true, lens2_ag2, lens1_v, lens1_iL, true_and] at hl
  simp (maxSteps := 5000000) -dsimp only [↓gp, gq, reduceCtorEq, Nat.reduceEqDiff, Nat.reduceLT, Nat.reduceLeDiff, Nat.reduceAdd, Nat.reduceMul, Nat.reduceSub, Nat.reduceBEq, Int.reduceToNat, Int.reduceLE, Int.reduceLT, Int.reduceNeg, Nat.reduceMod, sid_ne1, sid_ne2, sid_inj, sid_mod, gT, TK.isInt, TK.agg, Array.toList]
  refine loop_of (fun (k : Nat) s => s.sl 1 = .ref 1 1 0 ∧ s.rw 1 = ⟨1, .box 57 [int n, ints xs]⟩ ∧ s.sl 3 = int k ∧ (k ≤ xs.length ∧ ∀ i, i < k → cxAt n xs i)) (fun k => xs.length - k) (0) (by refine ⟨?_, ?_, ?_, by simp⟩ <;> (first | (simp (maxSteps := 5000000) -dsimp only [gr, Nat.reduceEqDiff, Nat.reduceLT, Nat.reduceAdd, Nat.reduceMod, Nat.reduceBEq, sid_mod, sid_ne1, sid_ne2, sid_inj]; first | done | rfl | (simp; done)) | assumption | rfl)) ?_
  intro k sa ⟨h1a, r1a, h3a, hIa⟩
  obtain ⟨hk, hall⟩ := hIa
  have hw : IntKind.i64.wrap ((k : Int) - 1) = (k : Int) - 1 := wrap_id (by omega) (by omega)
  simp (maxSteps := 5000000) -dsimp only [↓gp, gq, reduceCtorEq, Nat.reduceEqDiff, Nat.reduceLT, Nat.reduceLeDiff, Nat.reduceAdd, Nat.reduceMul, Nat.reduceSub, Nat.reduceBEq, Int.reduceToNat, Int.reduceLE, Int.reduceLT, Int.reduceNeg, Nat.reduceMod, sid_ne1, sid_ne2, sid_inj, sid_mod, gT, TK.isInt, TK.agg, Array.toList, h1a, r1a, h3a, hw, toNat_pred]
  refine ⟨fun h => ⟨by kernel_rfl, h, h, askK_of (c_spec_IsSet _ _) ?_⟩, fun h => askK_of (c_spec_l1In _ _ _) ?_⟩
  · simp (maxSteps := 5000000) -dsimp only [↓gp, gq, reduceCtorEq, Nat.reduceEqDiff, Nat.reduceLT, Nat.reduceLeDiff, Nat.reduceAdd, Nat.reduceMul, Nat.reduceSub, Nat.reduceBEq, Int.reduceToNat, Int.reduceLE, Int.reduceLT, Int.reduceNeg, Nat.reduceMod, sid_ne1, sid_ne2, sid_inj, sid_mod, gT, TK.isInt, TK.agg, Array.toList, h1a, r1a, h3a, hw, toNat_pred]
    refine ⟨fun hs => ⟨fun h0 => ⟨by omega, by omega, by omega, h, h, ?_⟩, fun h0 => ?_⟩, fun hs => ?_⟩
    · have hs : inSet n (xs.getD k 0) = true := by rwa [Bool.not_eq_false'] at hs
      have hb := inSet_lt hs
      have hb' := inSet_lt (hall (k - 1) (by omega)).1
      refine askK_of (c_spec_l2Before hb' hb) ?_
      simp (maxSteps := 5000000) -dsimp only [↓gp, gq, reduceCtorEq, Nat.reduceEqDiff, Nat.reduceLT, Nat.reduceLeDiff, Nat.reduceAdd, Nat.reduceMul, Nat.reduceSub, Nat.reduceBEq, Int.reduceToNat, Int.reduceLE, Int.reduceLT, Int.reduceNeg, Nat.reduceMod, sid_ne1, sid_ne2, sid_inj, sid_mod, gT, TK.isInt, TK.agg, Array.toList, h1a, r1a, h3a, hw, toNat_pred]
      refine ⟨fun hbef => isCx_no fun hg => ?_, fun hbef => ?_⟩
      · have := (hg.2.2 k h).2.1 (by omega)
        rw [this] at hbef; cases hbef
      · have hbef : 0 < k → befS (xs.getD (k - 1) 0) (xs.getD k 0) = true := fun _ => by rwa [Bool.not_eq_false'] at hbef
        refine loop_of (fun (i : Nat) s => s.sl 1 = .ref 1 1 0 ∧ s.rw 1 = ⟨1, .box 57 [int n, ints xs]⟩ ∧ s.sl 3 = int k ∧ s.sl 4 = int i ∧ (i ≤ k ∧ ∀ j, j < i → iand .i64 (xs.getD j 0) (xs.getD k 0) ≠ xs.getD j 0)) (fun i => k - i) (0) (by refine ⟨?_, ?_, ?_, ?_, by simp⟩ <;> (first | (simp (maxSteps := 5000000) -dsimp only [gr, Nat.reduceEqDiff, Nat.reduceLT, Nat.reduceAdd, Nat.reduceMod, Nat.reduceBEq, sid_mod, sid_ne1, sid_ne2, sid_inj, h1a, r1a, h3a]; first | done | rfl | (simp; done)) | assumption | rfl)) ?_
        intro i sb ⟨h1b, r1b, h3b, h4b, hIb⟩
        obtain ⟨hik, hin⟩ := hIb
        simp (maxSteps := 5000000) -dsimp only [↓gp, gq, reduceCtorEq, Nat.reduceEqDiff, Nat.reduceLT, Nat.reduceLeDiff, Nat.reduceAdd, Nat.reduceMul, Nat.reduceSub, Nat.reduceBEq, Int.reduceToNat, Int.reduceLE, Int.reduceLT, Int.reduceNeg, Nat.reduceMod, sid_ne1, sid_ne2, sid_inj, sid_mod, gT, TK.isInt, TK.agg, Array.toList, h1b, r1b, h3b, h4b]
        refine ⟨fun hi => ⟨by kernel_rfl, by omega, by omega, h, h, by omega, by omega, fun he => ?_, fun he => again_of (i + 1) ⟨(by (first | (simp (maxSteps := 5000000) -dsimp only [gr, Nat.reduceEqDiff, Nat.reduceLT, Nat.reduceAdd, Nat.reduceMod, Nat.reduceBEq, sid_mod, sid_ne1, sid_ne2, sid_inj, h1b, r1b, h3b, h4b, wrap_nat hi (by omega)]; first | done | rfl | (simp; done)) | assumption | rfl)), (by (first | (simp (maxSteps := 5000000) -dsimp only [gr, Nat.reduceEqDiff, Nat.reduceLT, Nat.reduceAdd, Nat.reduceMod, Nat.reduceBEq, sid_mod, sid_ne1, sid_ne2, sid_inj, h1b, r1b, h3b, h4b, wrap_nat hi (by omega)]; first | done | rfl | (simp; done)) | assumption | rfl)), (by (first | (simp (maxSteps := 5000000) -dsimp only [gr, Nat.reduceEqDiff, Nat.reduceLT, Nat.reduceAdd, Nat.reduceMod, Nat.reduceBEq, sid_mod, sid_ne1, sid_ne2, sid_inj, h1b, r1b, h3b, h4b, wrap_nat hi (by omega)]; first | done | rfl | (simp; done)) | assumption | rfl)), (by (first | (simp (maxSteps := 5000000) -dsimp only [gr, Nat.reduceEqDiff, Nat.reduceLT, Nat.reduceAdd, Nat.reduceMod, Nat.reduceBEq, sid_mod, sid_ne1, sid_ne2, sid_inj, h1b, r1b, h3b, h4b, wrap_nat hi (by omega)]; first | done | rfl | (simp; done)) | assumption | rfl)), ⟨by omega, fun j hj => ?_⟩⟩ (by first | omega | (simp only; omega) | (dsimp only; omega) | (show _ < _; simp; omega))⟩, fun hi => again_of (k + 1) ⟨(by (first | (simp (maxSteps := 5000000) -dsimp only [gr, Nat.reduceEqDiff, Nat.reduceLT, Nat.reduceAdd, Nat.reduceMod, Nat.reduceBEq, sid_mod, sid_ne1, sid_ne2, sid_inj, h1a, r1a, h3a, h1b, r1b, h3b, h4b, wrap_nat h hl]; first | done | rfl | (simp; done)) | assumption | rfl)), (by (first | (simp (maxSteps := 5000000) -dsimp only [gr, Nat.reduceEqDiff, Nat.reduceLT, Nat.reduceAdd, Nat.reduceMod, Nat.reduceBEq, sid_mod, sid_ne1, sid_ne2, sid_inj, h1a, r1a, h3a, h1b, r1b, h3b, h4b, wrap_nat h hl]; first | done | rfl | (simp; done)) | assumption | rfl)), (by (first | (simp (maxSteps := 5000000) -dsimp only [gr, Nat.reduceEqDiff, Nat.reduceLT, Nat.reduceAdd, Nat.reduceMod, Nat.reduceBEq, sid_mod, sid_ne1, sid_ne2, sid_inj, h1a, r1a, h3a, h1b, r1b, h3b, h4b, wrap_nat h hl]; first | done | rfl | (simp; done)) | assumption | rfl)), ⟨by omega, fun j hj => ?_⟩⟩ (by first | omega | (simp only; omega) | (dsimp only; omega) | (show _ < _; simp; omega))⟩
        · exact isCx_no fun hg => (hg.2.2 k h).2.2 i hi (by simpa using he)
        · rcases Nat.lt_succ_iff_lt_or_eq.1 hj with hj | rfl
          · exact hin j hj
          · simpa using he
        · rcases Nat.lt_succ_iff_lt_or_eq.1 hj with hj | rfl
          · exact hall j hj
          · exact ⟨hs, hbef, fun i hi => hin i (by omega)⟩
    · have hs : inSet n (xs.getD k 0) = true := by rwa [Bool.not_eq_false'] at hs
      have hbef : 0 < k → befS (xs.getD (k - 1) 0) (xs.getD k 0) = true := fun h => by omega
      refine loop_of (fun (i : Nat) s => s.sl 1 = .ref 1 1 0 ∧ s.rw 1 = ⟨1, .box 57 [int n, ints xs]⟩ ∧ s.sl 3 = int k ∧ s.sl 4 = int i ∧ (i ≤ k ∧ ∀ j, j < i → iand .i64 (xs.getD j 0) (xs.getD k 0) ≠ xs.getD j 0)) (fun i => k - i) (0) (by refine ⟨?_, ?_, ?_, ?_, by simp⟩ <;> (first | (simp (maxSteps := 5000000) -dsimp only [gr, Nat.reduceEqDiff, Nat.reduceLT, Nat.reduceAdd, Nat.reduceMod, Nat.reduceBEq, sid_mod, sid_ne1, sid_ne2, sid_inj, h1a, r1a, h3a]; first | done | rfl | (simp; done)) | assumption | rfl)) ?_
      intro i sb ⟨h1b, r1b, h3b, h4b, hIb⟩
      obtain ⟨hik, hin⟩ := hIb
      simp (maxSteps := 5000000) -dsimp only [↓gp, gq, reduceCtorEq, Nat.reduceEqDiff, Nat.reduceLT, Nat.reduceLeDiff, Nat.reduceAdd, Nat.reduceMul, Nat.reduceSub, Nat.reduceBEq, Int.reduceToNat, Int.reduceLE, Int.reduceLT, Int.reduceNeg, Nat.reduceMod, sid_ne1, sid_ne2, sid_inj, sid_mod, gT, TK.isInt, TK.agg, Array.toList, h1b, r1b, h3b, h4b]
      refine ⟨fun hi => ⟨by kernel_rfl, by omega, by omega, h, h, by omega, by omega, fun he => ?_, fun he => again_of (i + 1) ⟨(by (first | (simp (maxSteps := 5000000) -dsimp only [gr, Nat.reduceEqDiff, Nat.reduceLT, Nat.reduceAdd, Nat.reduceMod, Nat.reduceBEq, sid_mod, sid_ne1, sid_ne2, sid_inj, h1b, r1b, h3b, h4b, wrap_nat hi (by omega)]; first | done | rfl | (simp; done)) | assumption | rfl)), (by (first | (simp (maxSteps := 5000000) -dsimp only [gr, Nat.reduceEqDiff, Nat.reduceLT, Nat.reduceAdd, Nat.reduceMod, Nat.reduceBEq, sid_mod, sid_ne1, sid_ne2, sid_inj, h1b, r1b, h3b, h4b, wrap_nat hi (by omega)]; first | done | rfl | (simp; done)) | assumption | rfl)), (by (first | (simp (maxSteps := 5000000) -dsimp only [gr, Nat.reduceEqDiff, Nat.reduceLT, Nat.reduceAdd, Nat.reduceMod, Nat.reduceBEq, sid_mod, sid_ne1, sid_ne2, sid_inj, h1b, r1b, h3b, h4b, wrap_nat hi (by omega)]; first | done | rfl | (simp; done)) | assumption | rfl)), (by (first | (simp (maxSteps := 5000000) -dsimp only [gr, Nat.reduceEqDiff, Nat.reduceLT, Nat.reduceAdd, Nat.reduceMod, Nat.reduceBEq, sid_mod, sid_ne1, sid_ne2, sid_inj, h1b, r1b, h3b, h4b, wrap_nat hi (by omega)]; first | done | rfl | (simp; done)) | assumption | rfl)), ⟨by omega, fun j hj => ?_⟩⟩ (by first | omega | (simp only; omega) | (dsimp only; omega) | (show _ < _; simp; omega))⟩, fun hi => again_of (k + 1) ⟨(by (first | (simp (maxSteps := 5000000) -dsimp only [gr, Nat.reduceEqDiff, Nat.reduceLT, Nat.reduceAdd, Nat.reduceMod, Nat.reduceBEq, sid_mod, sid_ne1, sid_ne2, sid_inj, h1a, r1a, h3a, h1b, r1b, h3b, h4b, wrap_nat h hl]; first | done | rfl | (simp; done)) | assumption | rfl)), (by (first | (simp (maxSteps := 5000000) -dsimp only [gr, Nat.reduceEqDiff, Nat.reduceLT, Nat.reduceAdd, Nat.reduceMod, Nat.reduceBEq, sid_mod, sid_ne1, sid_ne2, sid_inj, h1a, r1a, h3a, h1b, r1b, h3b, h4b, wrap_nat h hl]; first | done | rfl | (simp; done)) | assumption | rfl)), (by (first | (simp (maxSteps := 5000000) -dsimp only [gr, Nat.reduceEqDiff, Nat.reduceLT, Nat.reduceAdd, Nat.reduceMod, Nat.reduceBEq, sid_mod, sid_ne1, sid_ne2, sid_inj, h1a, r1a, h3a, h1b, r1b, h3b, h4b, wrap_nat h hl]; first | done | rfl | (simp; done)) | assumption | rfl)), ⟨by omega, fun j hj => ?_⟩⟩ (by first | omega | (simp only; omega) | (dsimp only; omega) | (show _ < _; simp; omega))⟩
      · exact isCx_no fun hg => (hg.2.2 k h).2.2 i hi (by simpa using he)
      · rcases Nat.lt_succ_iff_lt_or_eq.1 hj with hj | rfl
        · exact hin j hj
        · simpa using he
      · rcases Nat.lt_succ_iff_lt_or_eq.1 hj with hj | rfl
        · exact hall j hj
        · exact ⟨hs, hbef, fun i hi => hin i (by omega)⟩
    · have hs : inSet n (xs.getD k 0) = false := by rwa [Bool.not_eq_true'] at hs
      exact isCx_no fun hg => by have := (hg.2.2 k h).1; rw [hs] at this; cases this
  · simp (maxSteps := 5000000) -dsimp only [↓gp, gq, reduceCtorEq, Nat.reduceEqDiff, Nat.reduceLT, Nat.reduceLeDiff, Nat.reduceAdd, Nat.reduceMul, Nat.reduceSub, Nat.reduceBEq, Int.reduceToNat, Int.reduceLE, Int.reduceLT, Int.reduceNeg, Nat.reduceMod, sid_ne1, sid_ne2, sid_inj, sid_mod, gT, TK.isInt, TK.agg, Array.toList, h1a, r1a, h3a, hw, toNat_pred]
    by_cases hn : 1 ≤ n ∧ n ≤ 6
    · rw [isCx_yes ⟨hn.1, hn.2, fun k hk => hall k (by omega)⟩]
      simp [hn.1, hn.2]
    · rw [isCx_no fun hg => hn ⟨hg.1, hg.2.1⟩]
      symm
      rw [Bool.and_eq_false_iff, decide_eq_false_iff_not, decide_eq_false_iff_not]
      omega
theorem c_impl_isAntichain (n : Int) (xs : List Int) : AC Try.prog 115 [int n, ints xs] (.im (bool (isCx n xs))) := by
  refine AC.go (rs := [.tmp 4]) T_ok mixed Try.func115 rfl rfl rfl (by kernel_rfl) fun hl => ?_
  simp only [lens_cons, lens_nil, and_true, lens2_v, lens2_iL, true_and] at hl
  simp (maxSteps := 5000000) -dsimp only [↓gp, gq, reduceCtorEq, Nat.reduceEqDiff, Nat.reduceLT, Nat.reduceLeDiff, Nat.reduceAdd, Nat.reduceMul, Nat.reduceSub, Nat.reduceBEq, Int.reduceToNat, Int.reduceLE, Int.reduceLT, Int.reduceNeg, Nat.reduceMod, sid_ne1, sid_ne2, sid_inj, sid_mod, gT, TK.isInt, TK.agg, Array.toList]
  refine ⟨fun hn => ⟨fun h6 => isCx_no fun hg => by have := hg.2.1; omega, fun h6 => ?_⟩, fun hn => isCx_no fun hg => by have := hg.1; omega⟩
  refine loop_of (fun (k : Nat) s => s.sl 0 = int n ∧ s.sl 1 = ints xs ∧ s.sl 17 = ints xs ∧ s.sl 18 = int xs.length ∧ s.sl 19 = int k ∧ (k ≤ xs.length ∧ ∀ i, i < k → inSet n (xs.getD i 0) = true ∧ (0 < i → befS (xs.getD (i - 1) 0) (xs.getD i 0) = true))) (fun k => xs.length - k) (0) (by refine ⟨?_, ?_, ?_, ?_, ?_, by simp⟩ <;> (first | (simp (maxSteps := 5000000) -dsimp only [gr, Nat.reduceEqDiff, Nat.reduceLT, Nat.reduceAdd, Nat.reduceMod, Nat.reduceBEq, sid_mod, sid_ne1, sid_ne2, sid_inj]; first | done | rfl | (simp; done)) | assumption | rfl)) ?_
  intro k sa ⟨h0a, h1a, h17a, h18a, h19a, hIa⟩
  obtain ⟨hk, hall⟩ := hIa
  have hw : IntKind.i64.wrap ((k : Int) - 1) = (k : Int) - 1 := wrap_id (by omega) (by omega)
  simp (maxSteps := 5000000) -dsimp only [↓gp, gq, reduceCtorEq, Nat.reduceEqDiff, Nat.reduceLT, Nat.reduceLeDiff, Nat.reduceAdd, Nat.reduceMul, Nat.reduceSub, Nat.reduceBEq, Int.reduceToNat, Int.reduceLE, Int.reduceLT, Int.reduceNeg, Nat.reduceMod, sid_ne1, sid_ne2, sid_inj, sid_mod, gT, TK.isInt, TK.agg, Array.toList, h0a, h1a, h17a, h18a, h19a, hw, toNat_pred]
  refine ⟨fun h => ⟨h, h, askK_of (c_impl_IsSet _ _) ?_⟩, fun h => ?_⟩
  · simp (maxSteps := 5000000) -dsimp only [↓gp, gq, reduceCtorEq, Nat.reduceEqDiff, Nat.reduceLT, Nat.reduceLeDiff, Nat.reduceAdd, Nat.reduceMul, Nat.reduceSub, Nat.reduceBEq, Int.reduceToNat, Int.reduceLE, Int.reduceLT, Int.reduceNeg, Nat.reduceMod, sid_ne1, sid_ne2, sid_inj, sid_mod, gT, TK.isInt, TK.agg, Array.toList, h0a, h1a, h17a, h18a, h19a, hw, toNat_pred]
    refine ⟨fun hs => ?_, fun hs => ⟨fun h0 => ⟨by omega, by omega, by omega, askK_of (c_impl_BeforeSet _ _) ?_⟩, fun h0 => ?_⟩⟩
    · have hs : inSet n (xs.getD k 0) = false := by rwa [Bool.not_eq_true'] at hs
      exact isCx_no fun hg => by have := (hg.2.2 k h).1; rw [hs] at this; cases this
    · simp (maxSteps := 5000000) -dsimp only [↓gp, gq, reduceCtorEq, Nat.reduceEqDiff, Nat.reduceLT, Nat.reduceLeDiff, Nat.reduceAdd, Nat.reduceMul, Nat.reduceSub, Nat.reduceBEq, Int.reduceToNat, Int.reduceLE, Int.reduceLT, Int.reduceNeg, Nat.reduceMod, sid_ne1, sid_ne2, sid_inj, sid_mod, gT, TK.isInt, TK.agg, Array.toList, h0a, h1a, h17a, h18a, h19a, hw, toNat_pred]
      refine ⟨fun hb => isCx_no fun hg => ?_, fun hb => again_of (k + 1) ⟨(by (first | (simp (maxSteps := 5000000) -dsimp only [gr, Nat.reduceEqDiff, Nat.reduceLT, Nat.reduceAdd, Nat.reduceMod, Nat.reduceBEq, sid_mod, sid_ne1, sid_ne2, sid_inj, h0a, h1a, h17a, h18a, h19a, wrap_nat h hl]; first | done | rfl | (simp; done)) | assumption | rfl)), (by (first | (simp (maxSteps := 5000000) -dsimp only [gr, Nat.reduceEqDiff, Nat.reduceLT, Nat.reduceAdd, Nat.reduceMod, Nat.reduceBEq, sid_mod, sid_ne1, sid_ne2, sid_inj, h0a, h1a, h17a, h18a, h19a, wrap_nat h hl]; first | done | rfl | (simp; done)) | assumption | rfl)), (by (first | (simp (maxSteps := 5000000) -dsimp only [gr, Nat.reduceEqDiff, Nat.reduceLT, Nat.reduceAdd, Nat.reduceMod, Nat.reduceBEq, sid_mod, sid_ne1, sid_ne2, sid_inj, h0a, h1a, h17a, h18a, h19a, wrap_nat h hl]; first | done | rfl | (simp; done)) | assumption | rfl)), (by (first | (simp (maxSteps := 5000000) -dsimp only [gr, Nat.reduceEqDiff, Nat.reduceLT, Nat.reduceAdd, Nat.reduceMod, Nat.reduceBEq, sid_mod, sid_ne1, sid_ne2, sid_inj, h0a, h1a, h17a, h18a, h19a, wrap_nat h hl]; first | done | rfl | (simp; done)) | assumption | rfl)), (by (first | (simp (maxSteps := 5000000) -dsimp only [gr, Nat.reduceEqDiff, Nat.reduceLT, Nat.reduceAdd, Nat.reduceMod, Nat.reduceBEq, sid_mod, sid_ne1, sid_ne2, sid_inj, h0a, h1a, h17a, h18a, h19a, wrap_nat h hl]; first | done | rfl | (simp; done)) | assumption | rfl)), ⟨by omega, fun j hj => ?_⟩⟩ (by first | omega | (simp only; omega) | (dsimp only; omega) | (show _ < _; simp; omega))⟩
      · have := (hg.2.2 k h).2.1 (by omega)
        rw [this] at hb; cases hb
      · rcases Nat.lt_succ_iff_lt_or_eq.1 hj with hj | rfl
        · exact hall j hj
        · exact ⟨by rwa [Bool.not_eq_false'] at hs, fun _ => by rwa [Bool.not_eq_false'] at hb⟩
    · refine again_of (k + 1) ⟨(by (first | (simp (maxSteps := 5000000) -dsimp only [gr, Nat.reduceEqDiff, Nat.reduceLT, Nat.reduceAdd, Nat.reduceMod, Nat.reduceBEq, sid_mod, sid_ne1, sid_ne2, sid_inj, h0a, h1a, h17a, h18a, h19a, wrap_nat h hl]; first | done | rfl | (simp; done)) | assumption | rfl)), (by (first | (simp (maxSteps := 5000000) -dsimp only [gr, Nat.reduceEqDiff, Nat.reduceLT, Nat.reduceAdd, Nat.reduceMod, Nat.reduceBEq, sid_mod, sid_ne1, sid_ne2, sid_inj, h0a, h1a, h17a, h18a, h19a, wrap_nat h hl]; first | done | rfl | (simp; done)) | assumption | rfl)), (by (first | (simp (maxSteps := 5000000) -dsimp only [gr, Nat.reduceEqDiff, Nat.reduceLT, Nat.reduceAdd, Nat.reduceMod, Nat.reduceBEq, sid_mod, sid_ne1, sid_ne2, sid_inj, h0a, h1a, h17a, h18a, h19a, wrap_nat h hl]; first | done | rfl | (simp; done)) | assumption | rfl)), (by (first | (simp (maxSteps := 5000000) -dsimp only [gr, Nat.reduceEqDiff, Nat.reduceLT, Nat.reduceAdd, Nat.reduceMod, Nat.reduceBEq, sid_mod, sid_ne1, sid_ne2, sid_inj, h0a, h1a, h17a, h18a, h19a, wrap_nat h hl]; first | done | rfl | (simp; done)) | assumption | rfl)), (by (first | (simp (maxSteps := 5000000) -dsimp only [gr, Nat.reduceEqDiff, Nat.reduceLT, Nat.reduceAdd, Nat.reduceMod, Nat.reduceBEq, sid_mod, sid_ne1, sid_ne2, sid_inj, h0a, h1a, h17a, h18a, h19a, wrap_nat h hl]; first | done | rfl | (simp; done)) | assumption | rfl)), ⟨by omega, fun j hj => ?_⟩⟩ (by first | omega | (simp only; omega) | (dsimp only; omega) | (show _ < _; simp; omega))
      rcases Nat.lt_succ_iff_lt_or_eq.1 hj with hj | rfl
      · exact hall j hj
      · exact ⟨by rwa [Bool.not_eq_false'] at hs, fun _ => by omega⟩
  · have hall' : ∀ i, i < xs.length → inSet n (xs.getD i 0) = true ∧ (0 < i → befS (xs.getD (i - 1) 0) (xs.getD i 0) = true) := fun i hi => hall i (by omega)
    clear hw hall
    have hsub : ∀ i j, i < xs.length → j < xs.length → (iandnot .i64 (xs.getD i 0) (xs.getD j 0) = 0 ↔ iand .i64 (xs.getD i 0) (xs.getD j 0) = xs.getD i 0) := fun i j hi hj => andnot_zero (inSet_lt (hall' i hi).1) (inSet_lt (hall' j hj).1)
    refine loop_of (fun (i : Nat) s => s.sl 1 = ints xs ∧ s.sl 41 = ints xs ∧ s.sl 42 = int xs.length ∧ s.sl 43 = int i ∧ (i ≤ xs.length ∧ ∀ j k, j < i → j < k → k < xs.length → iand .i64 (xs.getD j 0) (xs.getD k 0) ≠ xs.getD j 0)) (fun i => xs.length - i) (0) (by refine ⟨?_, ?_, ?_, ?_, by simp⟩ <;> (first | (simp (maxSteps := 5000000) -dsimp only [gr, Nat.reduceEqDiff, Nat.reduceLT, Nat.reduceAdd, Nat.reduceMod, Nat.reduceBEq, sid_mod, sid_ne1, sid_ne2, sid_inj, h0a, h1a, h17a, h18a, h19a]; first | done | rfl | (simp; done)) | assumption | rfl)) ?_
    intro i sb ⟨h1b, h41b, h42b, h43b, hIb⟩
    obtain ⟨hi, hin⟩ := hIb
    have hwi : i < xs.length → IntKind.i64.wrap ((i : Int) + 1) = ((i + 1 : Nat) : Int) := fun h => wrap_nat h hl
    simp (maxSteps := 5000000) -dsimp only [↓gp, gq, reduceCtorEq, Nat.reduceEqDiff, Nat.reduceLT, Nat.reduceLeDiff, Nat.reduceAdd, Nat.reduceMul, Nat.reduceSub, Nat.reduceBEq, Int.reduceToNat, Int.reduceLE, Int.reduceLT, Int.reduceNeg, Nat.reduceMod, sid_ne1, sid_ne2, sid_inj, sid_mod, gT, TK.isInt, TK.agg, Array.toList, h1b, h41b, h42b, h43b]
    refine ⟨fun hlt => ?_, fun hge => isCx_yes ⟨by omega, by omega, fun k hk => ⟨(hall' k hk).1, (hall' k hk).2, fun j hj => hin j k (by omega) hj hk⟩⟩⟩
    rw [hwi hlt]
    refine ⟨hlt, hlt, by omega, by omega, ?_⟩
    refine loop_of (fun (j : Nat) s => s.sl 1 = ints xs ∧ s.sl 41 = ints xs ∧ s.sl 42 = int xs.length ∧ s.sl 43 = int i ∧ s.sl 8 = int (xs.getD i 0) ∧ s.sl 51 = ints (xs.drop (i + 1)) ∧ s.sl 52 = int (xs.length - (i + 1) : Nat) ∧ s.sl 53 = int j ∧ (j ≤ xs.length - (i + 1) ∧ ∀ k, k < j → iand .i64 (xs.getD i 0) (xs.getD (i + 1 + k) 0) ≠ xs.getD i 0)) (fun j => xs.length - (i + 1) - j) (0) (by refine ⟨?_, ?_, ?_, ?_, ?_, ?_, ?_, ?_, by simp⟩ <;> (first | (simp (maxSteps := 5000000) -dsimp only [gr, Nat.reduceEqDiff, Nat.reduceLT, Nat.reduceAdd, Nat.reduceMod, Nat.reduceBEq, sid_mod, sid_ne1, sid_ne2, sid_inj, h1b, h41b, h42b, h43b]; first | done | rfl | (simp; done)) | assumption | rfl)) ?_
    intro j sc ⟨h1c, h41c, h42c, h43c, h8c, h51c, h52c, h53c, hIc⟩
    obtain ⟨hj, hinn⟩ := hIc
    have hd : ∀ j, (xs.drop (i + 1)).getD j 0 = xs.getD (i + 1 + j) 0 := fun j => by simp [List.getD]
    simp (maxSteps := 5000000) -dsimp only [↓gp, gq, reduceCtorEq, Nat.reduceEqDiff, Nat.reduceLT, Nat.reduceLeDiff, Nat.reduceAdd, Nat.reduceMul, Nat.reduceSub, Nat.reduceBEq, Int.reduceToNat, Int.reduceLE, Int.reduceLT, Int.reduceNeg, Nat.reduceMod, sid_ne1, sid_ne2, sid_inj, sid_mod, gT, TK.isInt, TK.agg, Array.toList, h1c, h41c, h42c, h43c, h8c, h51c, h52c, h53c, hd, List.length_drop]
    refine ⟨fun h2 => ⟨h2, h2, fun he => ?_, fun he => again_of (j + 1) ⟨(by (first | (simp (maxSteps := 5000000) -dsimp only [gr, Nat.reduceEqDiff, Nat.reduceLT, Nat.reduceAdd, Nat.reduceMod, Nat.reduceBEq, sid_mod, sid_ne1, sid_ne2, sid_inj, h1c, h41c, h42c, h43c, h8c, h51c, h52c, h53c, wrap_nat h2 (by omega)]; first | done | rfl | (simp; done)) | assumption | rfl)), (by (first | (simp (maxSteps := 5000000) -dsimp only [gr, Nat.reduceEqDiff, Nat.reduceLT, Nat.reduceAdd, Nat.reduceMod, Nat.reduceBEq, sid_mod, sid_ne1, sid_ne2, sid_inj, h1c, h41c, h42c, h43c, h8c, h51c, h52c, h53c, wrap_nat h2 (by omega)]; first | done | rfl | (simp; done)) | assumption | rfl)), (by (first | (simp (maxSteps := 5000000) -dsimp only [gr, Nat.reduceEqDiff, Nat.reduceLT, Nat.reduceAdd, Nat.reduceMod, Nat.reduceBEq, sid_mod, sid_ne1, sid_ne2, sid_inj, h1c, h41c, h42c, h43c, h8c, h51c, h52c, h53c, wrap_nat h2 (by omega)]; first | done | rfl | (simp; done)) | assumption | rfl)), (by (first | (simp (maxSteps := 5000000) -dsimp only [gr, Nat.reduceEqDiff, Nat.reduceLT, Nat.reduceAdd, Nat.reduceMod, Nat.reduceBEq, sid_mod, sid_ne1, sid_ne2, sid_inj, h1c, h41c, h42c, h43c, h8c, h51c, h52c, h53c, wrap_nat h2 (by omega)]; first | done | rfl | (simp; done)) | assumption | rfl)), (by (first | (simp (maxSteps := 5000000) -dsimp only [gr, Nat.reduceEqDiff, Nat.reduceLT, Nat.reduceAdd, Nat.reduceMod, Nat.reduceBEq, sid_mod, sid_ne1, sid_ne2, sid_inj, h1c, h41c, h42c, h43c, h8c, h51c, h52c, h53c, wrap_nat h2 (by omega)]; first | done | rfl | (simp; done)) | assumption | rfl)), (by (first | (simp (maxSteps := 5000000) -dsimp only [gr, Nat.reduceEqDiff, Nat.reduceLT, Nat.reduceAdd, Nat.reduceMod, Nat.reduceBEq, sid_mod, sid_ne1, sid_ne2, sid_inj, h1c, h41c, h42c, h43c, h8c, h51c, h52c, h53c, wrap_nat h2 (by omega)]; first | done | rfl | (simp; done)) | assumption | rfl)), (by (first | (simp (maxSteps := 5000000) -dsimp only [gr, Nat.reduceEqDiff, Nat.reduceLT, Nat.reduceAdd, Nat.reduceMod, Nat.reduceBEq, sid_mod, sid_ne1, sid_ne2, sid_inj, h1c, h41c, h42c, h43c, h8c, h51c, h52c, h53c, wrap_nat h2 (by omega)]; first | done | rfl | (simp; done)) | assumption | rfl)), (by (first | (simp (maxSteps := 5000000) -dsimp only [gr, Nat.reduceEqDiff, Nat.reduceLT, Nat.reduceAdd, Nat.reduceMod, Nat.reduceBEq, sid_mod, sid_ne1, sid_ne2, sid_inj, h1c, h41c, h42c, h43c, h8c, h51c, h52c, h53c, wrap_nat h2 (by omega)]; first | done | rfl | (simp; done)) | assumption | rfl)), ⟨by omega, fun k hk => ?_⟩⟩ (by first | omega | (simp only; omega) | (dsimp only; omega) | (show _ < _; simp; omega))⟩, fun h2 => again_of (i + 1) ⟨(by (first | (simp (maxSteps := 5000000) -dsimp only [gr, Nat.reduceEqDiff, Nat.reduceLT, Nat.reduceAdd, Nat.reduceMod, Nat.reduceBEq, sid_mod, sid_ne1, sid_ne2, sid_inj, h1b, h41b, h42b, h43b, h1c, h41c, h42c, h43c, h8c, h51c, h52c, h53c, hwi hlt]; first | done | rfl | (simp; done)) | assumption | rfl)), (by (first | (simp (maxSteps := 5000000) -dsimp only [gr, Nat.reduceEqDiff, Nat.reduceLT, Nat.reduceAdd, Nat.reduceMod, Nat.reduceBEq, sid_mod, sid_ne1, sid_ne2, sid_inj, h1b, h41b, h42b, h43b, h1c, h41c, h42c, h43c, h8c, h51c, h52c, h53c, hwi hlt]; first | done | rfl | (simp; done)) | assumption | rfl)), (by (first | (simp (maxSteps := 5000000) -dsimp only [gr, Nat.reduceEqDiff, Nat.reduceLT, Nat.reduceAdd, Nat.reduceMod, Nat.reduceBEq, sid_mod, sid_ne1, sid_ne2, sid_inj, h1b, h41b, h42b, h43b, h1c, h41c, h42c, h43c, h8c, h51c, h52c, h53c, hwi hlt]; first | done | rfl | (simp; done)) | assumption | rfl)), (by (first | (simp (maxSteps := 5000000) -dsimp only [gr, Nat.reduceEqDiff, Nat.reduceLT, Nat.reduceAdd, Nat.reduceMod, Nat.reduceBEq, sid_mod, sid_ne1, sid_ne2, sid_inj, h1b, h41b, h42b, h43b, h1c, h41c, h42c, h43c, h8c, h51c, h52c, h53c, hwi hlt]; first | done | rfl | (simp; done)) | assumption | rfl)), ⟨by omega, fun j k hj' hk hk' => ?_⟩⟩ (by first | omega | (simp only; omega) | (dsimp only; omega) | (show _ < _; simp; omega))⟩
    · refine isCx_no fun hg => (hg.2.2 (i + 1 + j) (by omega)).2.2 i (by omega) ((hsub i (i + 1 + j) hlt (by omega)).1 (by simpa using he))
    · rcases Nat.lt_succ_iff_lt_or_eq.1 hk with hk | rfl
      · exact hinn k hk
      · intro e
        have := (hsub i (i + 1 + k) hlt (by omega)).2 e
        rw [this] at he
        simp at he
    · rcases Nat.lt_succ_iff_lt_or_eq.1 hj' with hj' | rfl
      · exact hin j k hj' hk hk'
      · have := hinn (k - (j + 1)) (by omega)
        rwa [show j + 1 + (k - (j + 1)) = k by omega] at this
end Go.Proofs.Ytnfpeinbdfmlnaa

namespace Go.Proofs.Ytnfpeinbdfmlnaa
open Go.Abs
set_option linter.unusedSimpArgs false
set_option linter.unusedVariables false

theorem befS_irrefl (a : Int) : befS a a = false := by unfold befS; simp
theorem befS_trans {a b c : Int} (h1 : befS a b = true) (h2 : befS b c = true) : befS a c = true := by
  unfold befS at *
  simp only [Bool.and_eq_true, decide_eq_true_eq] at *
  obtain ⟨ha, hb, h1⟩ := h1
  obtain ⟨_, hc, h2⟩ := h2
  refine ⟨ha, hc, ?_⟩
  split at h1 <;> split at h2 <;> simp only [decide_eq_true_eq] at h1 h2
  · rw [if_pos (by omega)]; exact decide_eq_true (by omega)
  · rw [if_neg (by omega)]; exact decide_eq_true (by omega)
  · rw [if_neg (by omega)]; exact decide_eq_true (by omega)
  · rw [if_neg (by omega)]; exact decide_eq_true (by omega)
theorem cx_sorted {n : Int} {xs : List Int} (h : cxP n xs) : ∀ (j i : Nat), i < j → j < xs.length → befS (xs.getD i 0) (xs.getD j 0) = true := by
  intro j
  induction j with
  | zero => intro i hi; omega
  | succ j ih =>
    intro i hi hj
    have h1 := (h.2.2 (j + 1) hj).2.1 (by omega)
    rw [Nat.add_sub_cancel] at h1
    rcases Nat.lt_succ_iff_lt_or_eq.1 hi with hi | rfl
    · exact befS_trans (ih i hi (by omega)) h1
    · exact h1
theorem cx_nodup {n : Int} {xs : List Int} (h : cxP n xs) : xs.Nodup := by
  refine List.pairwise_iff_getElem.2 fun i j hi hj hij e => ?_
  have := cx_sorted h j i hij hj
  rw [getD_at 0 hi, getD_at 0 hj, e, befS_irrefl] at this
  cases this
theorem c_impl_IsIdeal (n : Int) (xs : List Int) : AC Try.prog 75 [.ag [int n, ints xs]] (.im (bool (isCx n xs))) := by
  refine AC.go (rs := [.tmp 2]) T_ok mixed Try.func75 rfl rfl rfl (by kernel_rfl) fun hl => ?_
  simp (maxSteps := 5000000) -dsimp only [↓gp, gq, reduceCtorEq, Nat.reduceEqDiff, Nat.reduceLT, Nat.reduceLeDiff, Nat.reduceAdd, Nat.reduceMul, Nat.reduceSub, Nat.reduceBEq, Int.reduceToNat, Int.reduceLE, Int.reduceLT, Int.reduceNeg, Nat.reduceMod, sid_ne1, sid_ne2, sid_inj, sid_mod, gT, TK.isInt, TK.agg, Array.toList]
  refine askK_of (c_impl_isAntichain n xs) ?_
  simp (maxSteps := 5000000) -dsimp only [↓gp, gq, reduceCtorEq, Nat.reduceEqDiff, Nat.reduceLT, Nat.reduceLeDiff, Nat.reduceAdd, Nat.reduceMul, Nat.reduceSub, Nat.reduceBEq, Int.reduceToNat, Int.reduceLE, Int.reduceLT, Int.reduceNeg, Nat.reduceMod, sid_ne1, sid_ne2, sid_inj, sid_mod, gT, TK.isInt, TK.agg, Array.toList]
theorem c_laws_szIdeal (k : Int) (xs : List Int) (n : Int) (h0 : 0 ≤ n) (h1 : n ≤ 1048576) : AC Try.prog 36 [.ag [int k, ints xs], int n] (.im (int (szI n xs.length))) := by
  refine AC.go (rs := [.tmp 4]) T_ok mixed Try.func36 rfl rfl rfl (by kernel_rfl) fun hl => ?_
  simp (maxSteps := 5000000) -dsimp only [↓gp, gq, reduceCtorEq, Nat.reduceEqDiff, Nat.reduceLT, Nat.reduceLeDiff, Nat.reduceAdd, Nat.reduceMul, Nat.reduceSub, Nat.reduceBEq, Int.reduceToNat, Int.reduceLE, Int.reduceLT, Int.reduceNeg, Nat.reduceMod, sid_ne1, sid_ne2, sid_inj, sid_mod, gT, TK.isInt, TK.agg, Array.toList]
  refine askK_of (c_laws_szIntS xs n h0 h1) ?_
  simp (maxSteps := 5000000) -dsimp only [↓gp, gq, reduceCtorEq, Nat.reduceEqDiff, Nat.reduceLT, Nat.reduceLeDiff, Nat.reduceAdd, Nat.reduceMul, Nat.reduceSub, Nat.reduceBEq, Int.reduceToNat, Int.reduceLE, Int.reduceLT, Int.reduceNeg, Nat.reduceMod, sid_ne1, sid_ne2, sid_inj, sid_mod, gT, TK.isInt, TK.agg, Array.toList]
  have e : (if n - ↑xs.length < 0 then (-1 : Int) else n - ↑xs.length) = szI n xs.length := rfl
  simp only [e]
  refine ⟨fun h => ?_, fun _ => trivial⟩
  unfold szI at h ⊢
  split <;> omega
theorem c_laws_toIdeal (n : Int) (xs : List Int) (hx : xs.length ≤ 1048576) : AC Try.prog 38 [.ag [int n, ints xs]] (.ag [.im (int n), .fr 3 1 (iL xs)]) := by
  refine AC.go (rs := [.cell 2 43]) T_ok mixed Try.func38 rfl rfl rfl (by kernel_rfl) fun hl => ?_
  simp (maxSteps := 5000000) -dsimp only [↓gp, gq, reduceCtorEq, Nat.reduceEqDiff, Nat.reduceLT, Nat.reduceLeDiff, Nat.reduceAdd, Nat.reduceMul, Nat.reduceSub, Nat.reduceBEq, Int.reduceToNat, Int.reduceLE, Int.reduceLT, Int.reduceNeg, Nat.reduceMod, sid_ne1, sid_ne2, sid_inj, sid_mod, gT, TK.isInt, TK.agg, Array.toList]
  refine askK_of (c_laws_toIntS xs hx) ?_
  simp (maxSteps := 5000000) -dsimp only [↓gp, gq, reduceCtorEq, Nat.reduceEqDiff, Nat.reduceLT, Nat.reduceLeDiff, Nat.reduceAdd, Nat.reduceMul, Nat.reduceSub, Nat.reduceBEq, Int.reduceToNat, Int.reduceLE, Int.reduceLT, Int.reduceNeg, Nat.reduceMod, sid_ne1, sid_ne2, sid_inj, sid_mod, gT, TK.isInt, TK.agg, Array.toList]
end Go.Proofs.Ytnfpeinbdfmlnaa

namespace Go.Proofs.Ytnfpeinbdfmlnaa
open Go.Abs
set_option linter.unusedSimpArgs false
set_option linter.unusedVariables false

theorem c_spec_IsIdeal (n : Int) (xs : List Int) : AC Try.prog 74 [.ag [int n, ints xs]] (.im (bool (isCx n xs))) := by
  refine AC.go (rs := [.tmp 2]) T_ok mixed Try.func74 rfl rfl rfl (by kernel_rfl) fun hl => ?_
  simp (maxSteps := 5000000) -dsimp only [↓gp, gq, reduceCtorEq, Nat.reduceEqDiff, Nat.reduceLT, Nat.reduceLeDiff, Nat.reduceAdd, Nat.reduceMul, Nat.reduceSub, Nat.reduceBEq, Int.reduceToNat, Int.reduceLE, Int.reduceLT, Int.reduceNeg, Nat.reduceMod, sid_ne1, sid_ne2, sid_inj, sid_mod, gT, TK.isInt, TK.agg, Array.toList]
  refine askK_of (c_spec_IsComplex n xs) ?_
  simp (maxSteps := 5000000) -dsimp only [↓gp, gq, reduceCtorEq, Nat.reduceEqDiff, Nat.reduceLT, Nat.reduceLeDiff, Nat.reduceAdd, Nat.reduceMul, Nat.reduceSub, Nat.reduceBEq, Int.reduceToNat, Int.reduceLE, Int.reduceLT, Int.reduceNeg, Nat.reduceMod, sid_ne1, sid_ne2, sid_inj, sid_mod, gT, TK.isInt, TK.agg, Array.toList]
end Go.Proofs.Ytnfpeinbdfmlnaa

namespace Go.Proofs.Ytnfpeinbdfmlnaa
open Go.Abs
set_option linter.unusedSimpArgs false
set_option linter.unusedVariables false

end Go.Proofs.Ytnfpeinbdfmlnaa

namespace Go.Proofs.Ytnfpeinbdfmlnaa
open Go.Abs
set_option linter.unusedSimpArgs false
set_option linter.unusedVariables false

/-- The points that the generators before leave over. -/
def ptStep (g o b : Int) : Int := if szOf (iandnot .i64 b g) = 1 then ior .i64 o (iandnot .i64 b g) else o
def ptsIn (before : List Int) (g : Int) : Int := before.foldl (ptStep g) 0
def okL (l : List Int) : Prop := ∀ b ∈ l, 0 ≤ b ∧ b < 64
theorem okL_at {l : List Int} (h : okL l) {k : Nat} (hk : k < l.length) : 0 ≤ l.getD k 0 ∧ l.getD k 0 < 64 := h _ (getD_mem 0 hk)
theorem szOf_pop {s : Int} (h : 0 ≤ s ∧ s < 64) : szOf s = (popN s.toNat : Nat) := by rw [szOf, if_pos h]
theorem c_spec_l33Points (before : List Int) (g : Int) (hb : okL before) (hg : 0 ≤ g ∧ g < 64) : AC Try.prog 180 [ints before, int g] (.im (int (ptsIn before g))) := by
  refine AC.go (rs := [.tmp 4]) T_ok mixed Try.func180 rfl rfl rfl (by kernel_rfl) fun hl => ?_
  simp only [lens_cons, lens_nil, and_true, lens2_v, lens2_iL, true_and] at hl
  simp (maxSteps := 5000000) -dsimp only [↓gp, gq, reduceCtorEq, Nat.reduceEqDiff, Nat.reduceLT, Nat.reduceLeDiff, Nat.reduceAdd, Nat.reduceMul, Nat.reduceSub, Nat.reduceBEq, Int.reduceToNat, Int.reduceLE, Int.reduceLT, Int.reduceNeg, Nat.reduceMod, sid_ne1, sid_ne2, sid_inj, sid_mod, gT, TK.isInt, TK.agg, Array.toList]
  refine loop_of (fun (k : Nat) s => s.sl 0 = ints before ∧ s.sl 1 = int g ∧ s.sl 5 = int ((before.take k).foldl (ptStep g) 0) ∧ s.sl 6 = int k ∧ (k ≤ before.length)) (fun k => before.length - k) (0) (by refine ⟨?_, ?_, ?_, ?_, by simp⟩ <;> (first | (simp (maxSteps := 5000000) -dsimp only [gr, Nat.reduceEqDiff, Nat.reduceLT, Nat.reduceAdd, Nat.reduceMod, Nat.reduceBEq, sid_mod, sid_ne1, sid_ne2, sid_inj]; first | done | rfl | (simp; done)) | assumption | rfl)) ?_
  intro k sa ⟨h0a, h1a, h5a, h6a, hIa⟩
  simp (maxSteps := 5000000) -dsimp only [↓gp, gq, reduceCtorEq, Nat.reduceEqDiff, Nat.reduceLT, Nat.reduceLeDiff, Nat.reduceAdd, Nat.reduceMul, Nat.reduceSub, Nat.reduceBEq, Int.reduceToNat, Int.reduceLE, Int.reduceLT, Int.reduceNeg, Nat.reduceMod, sid_ne1, sid_ne2, sid_inj, sid_mod, gT, TK.isInt, TK.agg, Array.toList, h0a, h1a, h5a, h6a]
  refine ⟨fun h => ⟨by kernel_rfl, h, h, h, h, ?_⟩, fun h => ?_⟩
  · have hk := okL_at hb h
    obtain ⟨e, h0, h1⟩ := andnot_sub hk hg
    have hw : IntKind.i64.wrap (before.getD k 0 - iand .i64 (before.getD k 0) g) = iandnot .i64 (before.getD k 0) g := by rw [e]; exact wrap_id (by omega) (by omega)
    rw [hw]
    refine askK_of (c_spec_l2Sizei h0 (by omega)) ?_
    simp (maxSteps := 5000000) -dsimp only [↓gp, gq, reduceCtorEq, Nat.reduceEqDiff, Nat.reduceLT, Nat.reduceLeDiff, Nat.reduceAdd, Nat.reduceMul, Nat.reduceSub, Nat.reduceBEq, Int.reduceToNat, Int.reduceLE, Int.reduceLT, Int.reduceNeg, Nat.reduceMod, sid_ne1, sid_ne2, sid_inj, sid_mod, gT, TK.isInt, TK.agg, Array.toList, h0a, h1a, h5a, h6a, hw, wrap_nat h hl, foldl_step (ptStep g) 0 h]
    have e2 := szOf_pop ⟨h0, h1⟩
    refine ⟨fun hs => ?_, fun hs => ?_⟩
    · have hp : ∀ o, ptStep g o (before.getD k 0) = ior .i64 o (iandnot .i64 (before.getD k 0) g) := fun o => by unfold ptStep; rw [if_pos (by rw [e2]; exact beq_iff_eq.1 hs)]
      exact again_of (k + 1) (by refine ⟨?_, ?_, ?_, ?_, by omega⟩ <;> (first | (simp (maxSteps := 5000000) -dsimp only [gr, Nat.reduceEqDiff, Nat.reduceLT, Nat.reduceAdd, Nat.reduceMod, Nat.reduceBEq, sid_mod, sid_ne1, sid_ne2, sid_inj, h0a, h1a, h5a, h6a, wrap_nat h hl, foldl_step (ptStep g) 0 h, hp, hw]; first | done | rfl | (simp; done)) | assumption | rfl)) (by first | omega | (simp only; omega) | (dsimp only; omega) | (show _ < _; simp; omega))
    · have hp : ∀ o, ptStep g o (before.getD k 0) = o := fun o => by unfold ptStep; rw [if_neg (by rw [e2]; exact beq_eq_false_iff_ne.1 hs)]
      exact again_of (k + 1) (by refine ⟨?_, ?_, ?_, ?_, by omega⟩ <;> (first | (simp (maxSteps := 5000000) -dsimp only [gr, Nat.reduceEqDiff, Nat.reduceLT, Nat.reduceAdd, Nat.reduceMod, Nat.reduceBEq, sid_mod, sid_ne1, sid_ne2, sid_inj, h0a, h1a, h5a, h6a, wrap_nat h hl, foldl_step (ptStep g) 0 h, hp, hw]; first | done | rfl | (simp; done)) | assumption | rfl)) (by first | omega | (simp only; omega) | (dsimp only; omega) | (show _ < _; simp; omega))
  · obtain rfl : k = before.length := by omega
    unfold ptsIn
    rw [List.take_length]
theorem c_impl_pointsIn (before : List Int) (g : Int) : AC Try.prog 139 [ints before, int g] (.im (int (ptsIn before g))) := by
  refine AC.go (rs := [.tmp 4]) T_ok mixed Try.func139 rfl rfl rfl (by kernel_rfl) fun hl => ?_
  simp only [lens_cons, lens_nil, and_true, lens2_v, lens2_iL, true_and] at hl
  simp (maxSteps := 5000000) -dsimp only [↓gp, gq, reduceCtorEq, Nat.reduceEqDiff, Nat.reduceLT, Nat.reduceLeDiff, Nat.reduceAdd, Nat.reduceMul, Nat.reduceSub, Nat.reduceBEq, Int.reduceToNat, Int.reduceLE, Int.reduceLT, Int.reduceNeg, Nat.reduceMod, sid_ne1, sid_ne2, sid_inj, sid_mod, gT, TK.isInt, TK.agg, Array.toList]
  refine loop_of (fun (k : Nat) s => s.sl 1 = int g ∧ s.sl 5 = int ((before.take k).foldl (ptStep g) 0) ∧ s.sl 9 = ints before ∧ s.sl 10 = int before.length ∧ s.sl 11 = int k ∧ (k ≤ before.length)) (fun k => before.length - k) (0) (by refine ⟨?_, ?_, ?_, ?_, ?_, by simp⟩ <;> (first | (simp (maxSteps := 5000000) -dsimp only [gr, Nat.reduceEqDiff, Nat.reduceLT, Nat.reduceAdd, Nat.reduceMod, Nat.reduceBEq, sid_mod, sid_ne1, sid_ne2, sid_inj]; first | done | rfl | (simp; done)) | assumption | rfl)) ?_
  intro k sa ⟨h1a, h5a, h9a, h10a, h11a, hIa⟩
  simp (maxSteps := 5000000) -dsimp only [↓gp, gq, reduceCtorEq, Nat.reduceEqDiff, Nat.reduceLT, Nat.reduceLeDiff, Nat.reduceAdd, Nat.reduceMul, Nat.reduceSub, Nat.reduceBEq, Int.reduceToNat, Int.reduceLE, Int.reduceLT, Int.reduceNeg, Nat.reduceMod, sid_ne1, sid_ne2, sid_inj, sid_mod, gT, TK.isInt, TK.agg, Array.toList, h1a, h5a, h9a, h10a, h11a]
  refine ⟨fun h => ⟨h, h, askK_of (c_impl_SizeOf _) ?_⟩, fun h => ?_⟩
  · simp (maxSteps := 5000000) -dsimp only [↓gp, gq, reduceCtorEq, Nat.reduceEqDiff, Nat.reduceLT, Nat.reduceLeDiff, Nat.reduceAdd, Nat.reduceMul, Nat.reduceSub, Nat.reduceBEq, Int.reduceToNat, Int.reduceLE, Int.reduceLT, Int.reduceNeg, Nat.reduceMod, sid_ne1, sid_ne2, sid_inj, sid_mod, gT, TK.isInt, TK.agg, Array.toList, h1a, h5a, h9a, h10a, h11a]
    refine ⟨fun hs => ?_, fun hs => ?_⟩
    · have hp : ∀ o, ptStep g o (before.getD k 0) = ior .i64 o (iandnot .i64 (before.getD k 0) g) := fun o => by unfold ptStep; rw [if_pos (beq_iff_eq.1 hs)]
      exact again_of (k + 1) (by refine ⟨?_, ?_, ?_, ?_, ?_, by omega⟩ <;> (first | (simp (maxSteps := 5000000) -dsimp only [gr, Nat.reduceEqDiff, Nat.reduceLT, Nat.reduceAdd, Nat.reduceMod, Nat.reduceBEq, sid_mod, sid_ne1, sid_ne2, sid_inj, h1a, h5a, h9a, h10a, h11a, wrap_nat h hl, foldl_step (ptStep g) 0 h, hp]; first | done | rfl | (simp; done)) | assumption | rfl)) (by first | omega | (simp only; omega) | (dsimp only; omega) | (show _ < _; simp; omega))
    · have hp : ∀ o, ptStep g o (before.getD k 0) = o := fun o => by unfold ptStep; rw [if_neg (beq_eq_false_iff_ne.1 hs)]
      exact again_of (k + 1) (by refine ⟨?_, ?_, ?_, ?_, ?_, by omega⟩ <;> (first | (simp (maxSteps := 5000000) -dsimp only [gr, Nat.reduceEqDiff, Nat.reduceLT, Nat.reduceAdd, Nat.reduceMod, Nat.reduceBEq, sid_mod, sid_ne1, sid_ne2, sid_inj, h1a, h5a, h9a, h10a, h11a, wrap_nat h hl, foldl_step (ptStep g) 0 h, hp]; first | done | rfl | (simp; done)) | assumption | rfl)) (by first | omega | (simp only; omega) | (dsimp only; omega) | (show _ < _; simp; omega))
  · obtain rfl : k = before.length := by omega
    unfold ptsIn
    rw [List.take_length]
/-- Every generator before has one of the points. -/
def fitsB (before : List Int) (g : Int) : Bool := before.all fun b => iand .i64 b (ptsIn before g) != 0
theorem all_no {l : List Int} {p : Int → Bool} {k : Nat} (h : k < l.length) (hp : p (l.getD k 0) = false) : l.all p = false := by
  rw [List.all_eq_false]; exact ⟨_, getD_mem 0 h, fun e => by rw [hp] at e; cases e⟩
theorem all_yes {l : List Int} {p : Int → Bool} (h : ∀ k, k < l.length → p (l.getD k 0) = true) : l.all p = true := by
  rw [List.all_eq_true]; intro x hx
  obtain ⟨i, hi, rfl⟩ := mem_getD 0 hx
  exact h i hi
theorem c_spec_l33Fits (before : List Int) (g : Int) (hb : okL before) (hg : 0 ≤ g ∧ g < 64) : AC Try.prog 135 [ints before, int g] (.im (bool (fitsB before g))) := by
  refine AC.go (rs := [.tmp 4]) T_ok mixed Try.func135 rfl rfl rfl (by kernel_rfl) fun hl => ?_
  simp only [lens_cons, lens_nil, and_true, lens2_v, lens2_iL, true_and] at hl
  simp (maxSteps := 5000000) -dsimp only [↓gp, gq, reduceCtorEq, Nat.reduceEqDiff, Nat.reduceLT, Nat.reduceLeDiff, Nat.reduceAdd, Nat.reduceMul, Nat.reduceSub, Nat.reduceBEq, Int.reduceToNat, Int.reduceLE, Int.reduceLT, Int.reduceNeg, Nat.reduceMod, sid_ne1, sid_ne2, sid_inj, sid_mod, gT, TK.isInt, TK.agg, Array.toList]
  refine askK_of (c_spec_l33Points before g hb hg) ?_
  simp (maxSteps := 5000000) -dsimp only [↓gp, gq, reduceCtorEq, Nat.reduceEqDiff, Nat.reduceLT, Nat.reduceLeDiff, Nat.reduceAdd, Nat.reduceMul, Nat.reduceSub, Nat.reduceBEq, Int.reduceToNat, Int.reduceLE, Int.reduceLT, Int.reduceNeg, Nat.reduceMod, sid_ne1, sid_ne2, sid_inj, sid_mod, gT, TK.isInt, TK.agg, Array.toList]
  refine loop_of (fun (k : Nat) s => s.sl 0 = ints before ∧ s.sl 5 = int (ptsIn before g) ∧ s.sl 6 = int k ∧ (k ≤ before.length ∧ ∀ i, i < k → (iand .i64 (before.getD i 0) (ptsIn before g) != 0) = true)) (fun k => before.length - k) (0) (by refine ⟨?_, ?_, ?_, by simp⟩ <;> (first | (simp (maxSteps := 5000000) -dsimp only [gr, Nat.reduceEqDiff, Nat.reduceLT, Nat.reduceAdd, Nat.reduceMod, Nat.reduceBEq, sid_mod, sid_ne1, sid_ne2, sid_inj]; first | done | rfl | (simp; done)) | assumption | rfl)) ?_
  intro k sa ⟨h0a, h5a, h6a, hIa⟩
  obtain ⟨hk, hall⟩ := hIa
  simp (maxSteps := 5000000) -dsimp only [↓gp, gq, reduceCtorEq, Nat.reduceEqDiff, Nat.reduceLT, Nat.reduceLeDiff, Nat.reduceAdd, Nat.reduceMul, Nat.reduceSub, Nat.reduceBEq, Int.reduceToNat, Int.reduceLE, Int.reduceLT, Int.reduceNeg, Nat.reduceMod, sid_ne1, sid_ne2, sid_inj, sid_mod, gT, TK.isInt, TK.agg, Array.toList, h0a, h5a, h6a]
  refine ⟨fun h => ⟨h, h, fun he => all_no h (by simpa using he), fun he => again_of (k + 1) ⟨(by (first | (simp (maxSteps := 5000000) -dsimp only [gr, Nat.reduceEqDiff, Nat.reduceLT, Nat.reduceAdd, Nat.reduceMod, Nat.reduceBEq, sid_mod, sid_ne1, sid_ne2, sid_inj, h0a, h5a, h6a, wrap_nat h hl]; first | done | rfl | (simp; done)) | assumption | rfl)), (by (first | (simp (maxSteps := 5000000) -dsimp only [gr, Nat.reduceEqDiff, Nat.reduceLT, Nat.reduceAdd, Nat.reduceMod, Nat.reduceBEq, sid_mod, sid_ne1, sid_ne2, sid_inj, h0a, h5a, h6a, wrap_nat h hl]; first | done | rfl | (simp; done)) | assumption | rfl)), (by (first | (simp (maxSteps := 5000000) -dsimp only [gr, Nat.reduceEqDiff, Nat.reduceLT, Nat.reduceAdd, Nat.reduceMod, Nat.reduceBEq, sid_mod, sid_ne1, sid_ne2, sid_inj, h0a, h5a, h6a, wrap_nat h hl]; first | done | rfl | (simp; done)) | assumption | rfl)), ⟨by omega, fun i hi => ?_⟩⟩ (by first | omega | (simp only; omega) | (dsimp only; omega) | (show _ < _; simp; omega))⟩, fun h => all_yes fun i hi => hall i (by omega)⟩
  rcases Nat.lt_succ_iff_lt_or_eq.1 hi with hi | rfl
  · exact hall i hi
  · simpa using he
theorem c_impl_genFits (before : List Int) (g : Int) : AC Try.prog 94 [ints before, int g] (.im (bool (fitsB before g))) := by
  refine AC.go (rs := [.tmp 4]) T_ok mixed Try.func94 rfl rfl rfl (by kernel_rfl) fun hl => ?_
  simp only [lens_cons, lens_nil, and_true, lens2_v, lens2_iL, true_and] at hl
  simp (maxSteps := 5000000) -dsimp only [↓gp, gq, reduceCtorEq, Nat.reduceEqDiff, Nat.reduceLT, Nat.reduceLeDiff, Nat.reduceAdd, Nat.reduceMul, Nat.reduceSub, Nat.reduceBEq, Int.reduceToNat, Int.reduceLE, Int.reduceLT, Int.reduceNeg, Nat.reduceMod, sid_ne1, sid_ne2, sid_inj, sid_mod, gT, TK.isInt, TK.agg, Array.toList]
  refine askK_of (c_impl_pointsIn before g) ?_
  simp (maxSteps := 5000000) -dsimp only [↓gp, gq, reduceCtorEq, Nat.reduceEqDiff, Nat.reduceLT, Nat.reduceLeDiff, Nat.reduceAdd, Nat.reduceMul, Nat.reduceSub, Nat.reduceBEq, Int.reduceToNat, Int.reduceLE, Int.reduceLT, Int.reduceNeg, Nat.reduceMod, sid_ne1, sid_ne2, sid_inj, sid_mod, gT, TK.isInt, TK.agg, Array.toList]
  refine loop_of (fun (k : Nat) s => s.sl 5 = int (ptsIn before g) ∧ s.sl 11 = ints before ∧ s.sl 12 = int before.length ∧ s.sl 13 = int k ∧ (k ≤ before.length ∧ ∀ i, i < k → (iand .i64 (before.getD i 0) (ptsIn before g) != 0) = true)) (fun k => before.length - k) (0) (by refine ⟨?_, ?_, ?_, ?_, by simp⟩ <;> (first | (simp (maxSteps := 5000000) -dsimp only [gr, Nat.reduceEqDiff, Nat.reduceLT, Nat.reduceAdd, Nat.reduceMod, Nat.reduceBEq, sid_mod, sid_ne1, sid_ne2, sid_inj]; first | done | rfl | (simp; done)) | assumption | rfl)) ?_
  intro k sa ⟨h5a, h11a, h12a, h13a, hIa⟩
  obtain ⟨hk, hall⟩ := hIa
  have hc := iand_comm (ptsIn before g) (before.getD k 0)
  simp (maxSteps := 5000000) -dsimp only [↓gp, gq, reduceCtorEq, Nat.reduceEqDiff, Nat.reduceLT, Nat.reduceLeDiff, Nat.reduceAdd, Nat.reduceMul, Nat.reduceSub, Nat.reduceBEq, Int.reduceToNat, Int.reduceLE, Int.reduceLT, Int.reduceNeg, Nat.reduceMod, sid_ne1, sid_ne2, sid_inj, sid_mod, gT, TK.isInt, TK.agg, Array.toList, h5a, h11a, h12a, h13a, hc]
  refine ⟨fun h => ⟨h, h, fun he => all_no h (by simpa using he), fun he => again_of (k + 1) ⟨(by (first | (simp (maxSteps := 5000000) -dsimp only [gr, Nat.reduceEqDiff, Nat.reduceLT, Nat.reduceAdd, Nat.reduceMod, Nat.reduceBEq, sid_mod, sid_ne1, sid_ne2, sid_inj, h5a, h11a, h12a, h13a, wrap_nat h hl]; first | done | rfl | (simp; done)) | assumption | rfl)), (by (first | (simp (maxSteps := 5000000) -dsimp only [gr, Nat.reduceEqDiff, Nat.reduceLT, Nat.reduceAdd, Nat.reduceMod, Nat.reduceBEq, sid_mod, sid_ne1, sid_ne2, sid_inj, h5a, h11a, h12a, h13a, wrap_nat h hl]; first | done | rfl | (simp; done)) | assumption | rfl)), (by (first | (simp (maxSteps := 5000000) -dsimp only [gr, Nat.reduceEqDiff, Nat.reduceLT, Nat.reduceAdd, Nat.reduceMod, Nat.reduceBEq, sid_mod, sid_ne1, sid_ne2, sid_inj, h5a, h11a, h12a, h13a, wrap_nat h hl]; first | done | rfl | (simp; done)) | assumption | rfl)), (by (first | (simp (maxSteps := 5000000) -dsimp only [gr, Nat.reduceEqDiff, Nat.reduceLT, Nat.reduceAdd, Nat.reduceMod, Nat.reduceBEq, sid_mod, sid_ne1, sid_ne2, sid_inj, h5a, h11a, h12a, h13a, wrap_nat h hl]; first | done | rfl | (simp; done)) | assumption | rfl)), ⟨by omega, fun i hi => ?_⟩⟩ (by first | omega | (simp only; omega) | (dsimp only; omega) | (show _ < _; simp; omega))⟩, fun h => all_yes fun i hi => hall i (by omega)⟩
  rcases Nat.lt_succ_iff_lt_or_eq.1 hi with hi | rfl
  · exact hall i hi
  · simpa using he
end Go.Proofs.Ytnfpeinbdfmlnaa
