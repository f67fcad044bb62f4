/- DERIVED by an AI agent. -/
import Derived.Test.YtpnknaaehcljoaaGreatB1
import Derived.Test.YtpnknaaehcljoaaGreatP1
import Derived.Test.YtpnknaaehcljoaaGreatA17
namespace Go.Proofs.YtpnknaaehcljoaaGreat
open Go.Abs
open Nat (reduceEqDiff reduceMod reduceAdd reduceLT reduceLeDiff reduceSub reduceMul)
set_option linter.unusedSimpArgs false
set_option linter.unusedVariables false
def icmp (a b : Int) : Int := if a < b then -1 else if b < a then 1 else 0
theorem c_cmp_isNaN (a : Int) : AC Tryz.prog 242 [int a] (.im (bool false)) := by
  refine AC.go (rs := [.tmp 2]) T_ok mixed Tryz.func242 rfl rfl rfl (by kernel_rfl) fun _ => ?_
  simp (maxSteps:=5000000) -dsimp only [↓gp, gq, reduceCtorEq, reduceEqDiff, reduceLT, reduceLeDiff, reduceAdd, reduceMul, reduceSub, Nat.reduceBEq, Int.reduceToNat, Int.reduceLE, Int.reduceLT, Int.reduceNeg, reduceMod, sid_ne1, sid_ne2, sid_inj, sid_mod, gT, TK.isInt, TK.agg, Array.toList]
  simp
theorem c_cmp_Compare (a b : Int) : AC Tryz.prog 226 [int a, int b] (.im (int (icmp a b))) := by
  refine AC.go (rs := [.tmp 4]) T_ok mixed Tryz.func226 rfl rfl rfl (by kernel_rfl) fun _ => ?_
  simp (maxSteps:=5000000) -dsimp only [↓gp, gq, reduceCtorEq, reduceEqDiff, reduceLT, reduceLeDiff, reduceAdd, reduceMul, reduceSub, Nat.reduceBEq, Int.reduceToNat, Int.reduceLE, Int.reduceLT, Int.reduceNeg, reduceMod, sid_ne1, sid_ne2, sid_inj, sid_mod, gT, TK.isInt, TK.agg, Array.toList]
  refine askK_of (c_cmp_isNaN a) ?_
  simp (maxSteps:=5000000) -dsimp only [↓gp, gq, reduceCtorEq, reduceEqDiff, reduceLT, reduceLeDiff, reduceAdd, reduceMul, reduceSub, Nat.reduceBEq, Int.reduceToNat, Int.reduceLE, Int.reduceLT, Int.reduceNeg, reduceMod, sid_ne1, sid_ne2, sid_inj, sid_mod, gT, TK.isInt, TK.agg, Array.toList]
  refine askK_of (c_cmp_isNaN b) ?_
  simp (maxSteps:=5000000) -dsimp only [↓gp, gq, reduceCtorEq, reduceEqDiff, reduceLT, reduceLeDiff, reduceAdd, reduceMul, reduceSub, Nat.reduceBEq, Int.reduceToNat, Int.reduceLE, Int.reduceLT, Int.reduceNeg, reduceMod, sid_ne1, sid_ne2, sid_inj, sid_mod, gT, TK.isInt, TK.agg, Array.toList]
  unfold icmp
  refine ⟨fun h => ?_, fun h => ⟨fun h2 => ?_, fun h2 => ?_⟩⟩
  · simp [h]
  · simp [h, h2]
  · simp [h, h2]
theorem c_spec_l1In (a b c : Int) : AC Tryz.prog 111 [int a, int b, int c] (.im (bool (decide (b ≤ a) && decide (a ≤ c)))) := by
  refine AC.go (rs := [.tmp 6]) T_ok mixed Tryz.func111 rfl rfl rfl (by kernel_rfl) fun _ => ?_
  simp (maxSteps:=5000000) -dsimp only [↓gp, gq, reduceCtorEq, reduceEqDiff, reduceLT, reduceLeDiff, reduceAdd, reduceMul, reduceSub, Nat.reduceBEq, Int.reduceToNat, Int.reduceLE, Int.reduceLT, Int.reduceNeg, reduceMod, sid_ne1, sid_ne2, sid_inj, sid_mod, gT, TK.isInt, TK.agg, Array.toList]
  exact ⟨fun h => by simp [h], fun h => by simp [h]⟩
def isPow (xs : List Int) : Bool := xs.length == 3 && xs.all fun n => decide (0 ≤ n) && decide (n ≤ 2)
def lessL : List Int → List Int → Bool
  | [], _ => false
  | _ :: _, [] => false
  | a :: xs, b :: ys => if a = b then lessL xs ys else decide (a < b)
def cmpL : List Int → List Int → Int
  | [], [] => 0
  | [], _ :: _ => -1
  | _ :: _, [] => 1
  | a :: xs, b :: ys => if icmp a b = 0 then cmpL xs ys else icmp a b
theorem c_spec_l9Less (xs ys : List Int) : AC Tryz.prog 173 [ints xs, ints ys] (.im (bool (lessL xs ys))) := by
  refine AC.go (rs := [.tmp 4]) T_ok mixed Tryz.func173 rfl rfl rfl (by kernel_rfl) fun hl => ?_
  simp only [lens_cons, lens2_iL, lens_nil, and_true] at hl
  simp (maxSteps:=5000000) -dsimp only [↓gp, gq, reduceCtorEq, reduceEqDiff, reduceLT, reduceLeDiff, reduceAdd, reduceMul, reduceSub, Nat.reduceBEq, Int.reduceToNat, Int.reduceLE, Int.reduceLT, Int.reduceNeg, reduceMod, sid_ne1, sid_ne2, sid_inj, sid_mod, gT, TK.isInt, TK.agg, Array.toList]
  refine loop_of (fun (i : Nat) s => s.sl 0 = ints xs ∧ s.sl 1 = ints ys ∧ s.sl 5 = int i ∧ i ≤ xs.length ∧ lessL xs ys = lessL (xs.drop i) (ys.drop i)) (fun i => xs.length - i) 0 ⟨by simp (maxSteps:=5000000) -dsimp only [gr, reduceEqDiff, reduceLT, reduceAdd, reduceMod, Nat.reduceBEq, sid_mod, sid_ne1, sid_ne2, sid_inj], by simp (maxSteps:=5000000) -dsimp only [gr, reduceEqDiff, reduceLT, reduceAdd, reduceMod, Nat.reduceBEq, sid_mod, sid_ne1, sid_ne2, sid_inj], by simp (maxSteps:=5000000) -dsimp only [gr, reduceEqDiff, reduceLT, reduceAdd, reduceMod, Nat.reduceBEq, sid_mod, sid_ne1, sid_ne2, sid_inj]; rfl, by simp, by simp⟩ ?_
  intro i s1 ⟨h0, h1, h5, hi, hall⟩
  rw [hall]
  simp (maxSteps:=5000000) -dsimp only [↓gp, gq, reduceCtorEq, reduceEqDiff, reduceLT, reduceLeDiff, reduceAdd, reduceMul, reduceSub, Nat.reduceBEq, Int.reduceToNat, Int.reduceLE, Int.reduceLT, Int.reduceNeg, reduceMod, sid_ne1, sid_ne2, sid_inj, sid_mod, gT, TK.isInt, TK.agg, Array.toList, h0, h1, h5]
  refine ⟨fun h => ⟨fun h' => ⟨by kernel_rfl, h, h, h', h', fun ha => ⟨by kernel_rfl, h, h, h', h', ?_⟩, fun ha => ?_⟩, fun h' => ?_⟩, fun h => ?_⟩
  · rw [drop_step 0 h, drop_step 0 h']; simp only [lessL]; rw [if_neg (by simpa using ha)]
  · refine again_of (i + 1) ⟨by simp (maxSteps:=5000000) -dsimp only [gr, reduceEqDiff, reduceLT, reduceAdd, reduceMod, Nat.reduceBEq, sid_mod, sid_ne1, sid_ne2, sid_inj, h0], by simp (maxSteps:=5000000) -dsimp only [gr, reduceEqDiff, reduceLT, reduceAdd, reduceMod, Nat.reduceBEq, sid_mod, sid_ne1, sid_ne2, sid_inj, h1], by simp (maxSteps:=5000000) -dsimp only [gr, reduceEqDiff, reduceLT, reduceAdd, reduceMod, Nat.reduceBEq, sid_mod, sid_ne1, sid_ne2, sid_inj]; rw [wrap_nat h hl.1], h, ?_⟩ (by omega)
    rw [drop_step 0 h, drop_step 0 h']; simp only [lessL]; rw [if_pos (by simpa using ha)]
  · rw [List.drop_of_length_le (show ys.length ≤ i by omega)]
    cases xs.drop i <;> rfl
  · rw [List.drop_of_length_le (show xs.length ≤ i by omega)]; rfl
theorem c_slices_Compare (xs ys : List Int) : AC Tryz.prog 208 [ints xs, ints ys] (.im (int (cmpL xs ys))) := by
  refine AC.go (rs := [.tmp 4]) T_ok mixed Tryz.func208 rfl rfl rfl (by kernel_rfl) fun hl => ?_
  simp only [lens_cons, lens2_iL, lens_nil, and_true] at hl
  simp (maxSteps:=5000000) -dsimp only [↓gp, gq, reduceCtorEq, reduceEqDiff, reduceLT, reduceLeDiff, reduceAdd, reduceMul, reduceSub, Nat.reduceBEq, Int.reduceToNat, Int.reduceLE, Int.reduceLT, Int.reduceNeg, reduceMod, sid_ne1, sid_ne2, sid_inj, sid_mod, gT, TK.isInt, TK.agg, Array.toList]
  refine loop_of (fun (i : Nat) s => s.sl 0 = ints xs ∧ s.sl 1 = ints ys ∧ s.sl 9 = ints xs ∧ s.sl 10 = int xs.length ∧ s.sl 11 = int i ∧ i ≤ xs.length ∧ i ≤ ys.length ∧ cmpL xs ys = cmpL (xs.drop i) (ys.drop i)) (fun i => xs.length - i) 0 ⟨by simp (maxSteps:=5000000) -dsimp only [gr, reduceEqDiff, reduceLT, reduceAdd, reduceMod, Nat.reduceBEq, sid_mod, sid_ne1, sid_ne2, sid_inj], by simp (maxSteps:=5000000) -dsimp only [gr, reduceEqDiff, reduceLT, reduceAdd, reduceMod, Nat.reduceBEq, sid_mod, sid_ne1, sid_ne2, sid_inj], by simp (maxSteps:=5000000) -dsimp only [gr, reduceEqDiff, reduceLT, reduceAdd, reduceMod, Nat.reduceBEq, sid_mod, sid_ne1, sid_ne2, sid_inj], by simp (maxSteps:=5000000) -dsimp only [gr, reduceEqDiff, reduceLT, reduceAdd, reduceMod, Nat.reduceBEq, sid_mod, sid_ne1, sid_ne2, sid_inj], by simp (maxSteps:=5000000) -dsimp only [gr, reduceEqDiff, reduceLT, reduceAdd, reduceMod, Nat.reduceBEq, sid_mod, sid_ne1, sid_ne2, sid_inj]; rfl, by simp, by simp, by simp⟩ ?_
  intro i s1 ⟨h0, h1, h9, h10, h11, hi, hi2, hall⟩
  rw [hall]
  simp (maxSteps:=5000000) -dsimp only [↓gp, gq, reduceCtorEq, reduceEqDiff, reduceLT, reduceLeDiff, reduceAdd, reduceMul, reduceSub, Nat.reduceBEq, Int.reduceToNat, Int.reduceLE, Int.reduceLT, Int.reduceNeg, reduceMod, sid_ne1, sid_ne2, sid_inj, sid_mod, gT, TK.isInt, TK.agg, Array.toList, h0, h1, h9, h10, h11]
  refine ⟨fun h => ⟨h, h, fun h' => ?_, fun h' => ⟨by omega, by omega, askK_of (c_cmp_Compare _ _) ?_⟩⟩, fun h => ⟨fun h' => ?_, fun h' => ?_⟩⟩
  · rw [drop_step 0 h, List.drop_of_length_le h']; rfl
  · simp (maxSteps:=5000000) -dsimp only [↓gp, gq, reduceCtorEq, reduceEqDiff, reduceLT, reduceLeDiff, reduceAdd, reduceMul, reduceSub, Nat.reduceBEq, Int.reduceToNat, Int.reduceLE, Int.reduceLT, Int.reduceNeg, reduceMod, sid_ne1, sid_ne2, sid_inj, sid_mod, gT, TK.isInt, TK.agg, Array.toList, h0, h1, h9, h10, h11]
    refine ⟨fun ha => ?_, fun ha => ?_⟩
    · rw [drop_step 0 h, drop_step 0 (show i < ys.length by omega)]; simp only [cmpL]; rw [if_neg (by simpa using ha)]
    · refine again_of (i + 1) ⟨by simp (maxSteps:=5000000) -dsimp only [gr, reduceEqDiff, reduceLT, reduceAdd, reduceMod, Nat.reduceBEq, sid_mod, sid_ne1, sid_ne2, sid_inj, h0], by simp (maxSteps:=5000000) -dsimp only [gr, reduceEqDiff, reduceLT, reduceAdd, reduceMod, Nat.reduceBEq, sid_mod, sid_ne1, sid_ne2, sid_inj, h1], by simp (maxSteps:=5000000) -dsimp only [gr, reduceEqDiff, reduceLT, reduceAdd, reduceMod, Nat.reduceBEq, sid_mod, sid_ne1, sid_ne2, sid_inj, h9], by simp (maxSteps:=5000000) -dsimp only [gr, reduceEqDiff, reduceLT, reduceAdd, reduceMod, Nat.reduceBEq, sid_mod, sid_ne1, sid_ne2, sid_inj, h10], by simp (maxSteps:=5000000) -dsimp only [gr, reduceEqDiff, reduceLT, reduceAdd, reduceMod, Nat.reduceBEq, sid_mod, sid_ne1, sid_ne2, sid_inj]; rw [wrap_nat h hl.1], h, by omega, ?_⟩ (by omega)
      rw [drop_step 0 h, drop_step 0 (show i < ys.length by omega)]; simp only [cmpL]; rw [if_pos (by simpa using ha)]
  · rw [List.drop_of_length_le (show xs.length ≤ i by omega), drop_step 0 (show i < ys.length by omega)]; rfl
  · rw [List.drop_of_length_le (show xs.length ≤ i by omega), List.drop_of_length_le (show ys.length ≤ i by omega)]; rfl
theorem c_spec_l2Size (n : Nat) (h : n < 9223372036854775808) : AC Tryz.prog 100 [int n] (.im (int (popN n : Nat))) := by
  refine AC.go (rs := [.tmp 2]) T_ok mixed Tryz.func100 rfl rfl rfl (by kernel_rfl) fun hl => ?_
  simp (maxSteps:=5000000) -dsimp only [↓gp, gq, reduceCtorEq, reduceEqDiff, reduceLT, reduceLeDiff, reduceAdd, reduceMul, reduceSub, Nat.reduceBEq, Int.reduceToNat, Int.reduceLE, Int.reduceLT, Int.reduceNeg, reduceMod, sid_ne1, sid_ne2, sid_inj, sid_mod, gT, TK.isInt, TK.agg, Array.toList]
  refine loop_of (fun (x : Nat × Nat) s => s.sl 0 = int x.1 ∧ s.sl 3 = int x.2 ∧ x.1 ≤ n ∧ x.2 + popN x.1 = popN n) (fun x => x.1) (n, 0) ⟨by simp (maxSteps:=5000000) -dsimp only [gr, reduceEqDiff, reduceLT, reduceAdd, reduceMod, Nat.reduceBEq, sid_mod, sid_ne1, sid_ne2, sid_inj], by simp (maxSteps:=5000000) -dsimp only [gr, reduceEqDiff, reduceLT, reduceAdd, reduceMod, Nat.reduceBEq, sid_mod, sid_ne1, sid_ne2, sid_inj]; rfl, by simp, by simp⟩ ?_
  intro ⟨m, a⟩ s1 ⟨h0, h3, hm, hp⟩
  simp only at h0 h3 hm hp
  have hpl := popN_le n
  simp (maxSteps:=5000000) -dsimp only [↓gp, gq, reduceCtorEq, reduceEqDiff, reduceLT, reduceLeDiff, reduceAdd, reduceMul, reduceSub, Nat.reduceBEq, Int.reduceToNat, Int.reduceLE, Int.reduceLT, Int.reduceNeg, reduceMod, sid_ne1, sid_ne2, sid_inj, sid_mod, gT, TK.isInt, TK.agg, Array.toList, h0, h3, iand_one (show m < 9223372036854775808 by omega), ishr_one]
  refine ⟨fun h1 => ?_, fun h1 => ?_⟩
  · have hm0 : m ≠ 0 := by omega
    rw [popN_pos hm0] at hp
    refine again_of (m / 2, a + m % 2) ⟨by simp (maxSteps:=5000000) -dsimp only [gr, reduceEqDiff, reduceLT, reduceAdd, reduceMod, Nat.reduceBEq, sid_mod, sid_ne1, sid_ne2, sid_inj], ?_, by simp only; omega, by simp only; omega⟩ (by simp only; omega)
    simp (maxSteps:=5000000) -dsimp only [gr, reduceEqDiff, reduceLT, reduceAdd, reduceMod, Nat.reduceBEq, sid_mod, sid_ne1, sid_ne2, sid_inj]
    rw [wrap_id (by omega) (by omega)]
    rfl
  · have : m = 0 := by omega
    subst this
    rw [popN_zero] at hp
    omega
theorem c_spec_l2Sizei {s : Int} (h0 : 0 ≤ s) (h : s < 9223372036854775808) : AC Tryz.prog 100 [int s] (.im (int (popN s.toNat : Nat))) := by
  obtain ⟨m, rfl⟩ := Int.eq_ofNat_of_zero_le h0
  exact c_spec_l2Size m (by omega)
theorem c_bits_OnesCount64 (n : Nat) (h : n < 64) : AC Tryz.prog 210 [u64 n] (.im (int (popN n : Nat))) := by
  refine AC.go (rs := [.tmp 2]) T_ok mixed Tryz.func210 rfl rfl rfl (by kernel_rfl) fun hl => ?_
  simp (maxSteps:=5000000) -dsimp only [↓gp, gq, reduceCtorEq, reduceEqDiff, reduceLT, reduceLeDiff, reduceAdd, reduceMul, reduceSub, Nat.reduceBEq, Int.reduceToNat, Int.reduceLE, Int.reduceLT, Int.reduceNeg, reduceMod, sid_ne1, sid_ne2, sid_inj, sid_mod, gT, TK.isInt, TK.agg, Array.toList]
  rw [popN_6 h]
  clear hl
  obtain ⟨m, rfl⟩ : ∃ m : Fin 64, m.val = n := ⟨⟨n, h⟩, rfl⟩
  clear h
  revert m
  decide +kernel
theorem c_bits_OnesCount (n : Nat) (h : n < 64) : AC Tryz.prog 176 [u64 n] (.im (int (popN n : Nat))) := by
  refine AC.go (rs := [.tmp 2]) T_ok mixed Tryz.func176 rfl rfl rfl (by kernel_rfl) fun hl => ?_
  simp (maxSteps:=5000000) -dsimp only [↓gp, gq, reduceCtorEq, reduceEqDiff, reduceLT, reduceLeDiff, reduceAdd, reduceMul, reduceSub, Nat.reduceBEq, Int.reduceToNat, Int.reduceLE, Int.reduceLT, Int.reduceNeg, reduceMod, sid_ne1, sid_ne2, sid_inj, sid_mod, gT, TK.isInt, TK.agg, Array.toList]
  refine askK_of (c_bits_OnesCount64 n h) ?_
  simp (maxSteps:=5000000) -dsimp only [↓gp, gq, reduceCtorEq, reduceEqDiff, reduceLT, reduceLeDiff, reduceAdd, reduceMul, reduceSub, Nat.reduceBEq, Int.reduceToNat, Int.reduceLE, Int.reduceLT, Int.reduceNeg, reduceMod, sid_ne1, sid_ne2, sid_inj, sid_mod, gT, TK.isInt, TK.agg, Array.toList]
theorem c_impl_IsSet (n s : Int) : AC Tryz.prog 117 [int n, int s] (.im (bool (inSet n s))) := by
  refine AC.go (rs := [.tmp 4]) T_ok mixed Tryz.func117 rfl rfl rfl (by kernel_rfl) fun hl => ?_
  simp (maxSteps:=5000000) -dsimp only [↓gp, gq, reduceCtorEq, reduceEqDiff, reduceLT, reduceLeDiff, reduceAdd, reduceMul, reduceSub, Nat.reduceBEq, Int.reduceToNat, Int.reduceLE, Int.reduceLT, Int.reduceNeg, reduceMod, sid_ne1, sid_ne2, sid_inj, sid_mod, gT, TK.isInt, TK.agg, Array.toList, inSet]
  refine ⟨fun h0 => ⟨fun h6 => ⟨fun hs => ?_, fun hs => by omega⟩, fun h6 => by omega⟩, fun h0 => by omega⟩
  obtain ⟨m, rfl⟩ := Int.eq_ofNat_of_zero_le h0
  rw [uwrap_nat (by omega), ishl_small (by omega), pow_nat]
  exact ⟨by omega, by simp only [h0, h6, hs, true_and]⟩
theorem c_spec_IsSet (n s : Int) : AC Tryz.prog 119 [int n, int s] (.im (bool (inSet n s))) := by
  refine AC.go (rs := [.tmp 4]) T_ok mixed Tryz.func119 rfl rfl rfl (by kernel_rfl) fun hl => ?_
  simp (maxSteps:=5000000) -dsimp only [↓gp, gq, reduceCtorEq, reduceEqDiff, reduceLT, reduceLeDiff, reduceAdd, reduceMul, reduceSub, Nat.reduceBEq, Int.reduceToNat, Int.reduceLE, Int.reduceLT, Int.reduceNeg, reduceMod, sid_ne1, sid_ne2, sid_inj, sid_mod, gT, TK.isInt, TK.agg, Array.toList]
  refine askK_of (c_spec_l1In _ _ _) ?_
  simp (maxSteps:=5000000) -dsimp only [↓gp, gq, reduceCtorEq, reduceEqDiff, reduceLT, reduceLeDiff, reduceAdd, reduceMul, reduceSub, Nat.reduceBEq, Int.reduceToNat, Int.reduceLE, Int.reduceLT, Int.reduceNeg, reduceMod, sid_ne1, sid_ne2, sid_inj, sid_mod, gT, TK.isInt, TK.agg, Array.toList]
  refine ⟨fun h => ?_, fun h => ?_⟩
  · simp only [Bool.and_eq_true, decide_eq_true_eq] at h
    obtain ⟨h0, h6⟩ := h
    obtain ⟨m, rfl⟩ := Int.eq_ofNat_of_zero_le h0
    have hp := two_pow_le (m := m) (by omega)
    have e : inSet (m : Int) s = decide (0 ≤ s ∧ s < ((2 ^ m : Nat) : Int)) := by
      rw [inSet, pow_nat]
      simp only [h0, h6, true_and]
    rw [e, uwrap_nat (by omega), ishl_small (by omega)]
    generalize (2 ^ m : Nat) = q at hp
    rw [wrap_id (by omega) (by omega)]
    refine ⟨by omega, askK_of (c_spec_l1In _ _ _) ?_⟩
    simp (maxSteps:=5000000) -dsimp only [↓gp, gq, reduceCtorEq, reduceEqDiff, reduceLT, reduceLeDiff, reduceAdd, reduceMul, reduceSub, Nat.reduceBEq, Int.reduceToNat, Int.reduceLE, Int.reduceLT, Int.reduceNeg, reduceMod, sid_ne1, sid_ne2, sid_inj, sid_mod, gT, TK.isInt, TK.agg, Array.toList]
    rw [← Bool.decide_and]
    exact decide_eq_decide.2 (by omega)
  · refine decide_eq_false fun hh => ?_
    simp [hh.1, hh.2.1] at h
def szOf (s : Int) : Int := if 0 ≤ s ∧ s < 64 then (popN s.toNat : Nat) else -1
theorem inSet_6 (s : Int) : inSet 6 s = decide (0 ≤ s ∧ s < 64) := by
  simp [inSet]
theorem c_impl_SizeOf (s : Int) : AC Tryz.prog 97 [int s] (.im (int (szOf s))) := by
  refine AC.go (rs := [.tmp 2]) T_ok mixed Tryz.func97 rfl rfl rfl (by kernel_rfl) fun hl => ?_
  simp (maxSteps:=5000000) -dsimp only [↓gp, gq, reduceCtorEq, reduceEqDiff, reduceLT, reduceLeDiff, reduceAdd, reduceMul, reduceSub, Nat.reduceBEq, Int.reduceToNat, Int.reduceLE, Int.reduceLT, Int.reduceNeg, reduceMod, sid_ne1, sid_ne2, sid_inj, sid_mod, gT, TK.isInt, TK.agg, Array.toList]
  refine askK_of (c_impl_IsSet _ _) ?_
  simp (maxSteps:=5000000) -dsimp only [↓gp, gq, reduceCtorEq, reduceEqDiff, reduceLT, reduceLeDiff, reduceAdd, reduceMul, reduceSub, Nat.reduceBEq, Int.reduceToNat, Int.reduceLE, Int.reduceLT, Int.reduceNeg, reduceMod, sid_ne1, sid_ne2, sid_inj, sid_mod, gT, TK.isInt, TK.agg, Array.toList, inSet_6]
  refine ⟨fun h => ?_, fun h => ?_⟩
  · have h : ¬ (0 ≤ s ∧ s < 64) := by simp at h; omega
    rw [szOf, if_neg h]
  · have h : 0 ≤ s ∧ s < 64 := by simpa using h
    obtain ⟨m, rfl⟩ := Int.eq_ofNat_of_zero_le h.1
    rw [uwrap_nat (by omega)]
    refine askK_of (c_bits_OnesCount m (by omega)) ?_
    simp (maxSteps:=5000000) -dsimp only [↓gp, gq, reduceCtorEq, reduceEqDiff, reduceLT, reduceLeDiff, reduceAdd, reduceMul, reduceSub, Nat.reduceBEq, Int.reduceToNat, Int.reduceLE, Int.reduceLT, Int.reduceNeg, reduceMod, sid_ne1, sid_ne2, sid_inj, sid_mod, gT, TK.isInt, TK.agg, Array.toList]
    rw [szOf, if_pos h]; rfl
def befS (a b : Int) : Bool := decide (0 ≤ a ∧ a < 64) && (decide (0 ≤ b ∧ b < 64) && (if szOf a = szOf b then decide (a < b) else decide (szOf a < szOf b)))
theorem c_impl_BeforeSet (a b : Int) : AC Tryz.prog 118 [int a, int b] (.im (bool (befS a b))) := by
  refine AC.go (rs := [.tmp 4]) T_ok mixed Tryz.func118 rfl rfl rfl (by kernel_rfl) fun hl => ?_
  simp (maxSteps:=5000000) -dsimp only [↓gp, gq, reduceCtorEq, reduceEqDiff, reduceLT, reduceLeDiff, reduceAdd, reduceMul, reduceSub, Nat.reduceBEq, Int.reduceToNat, Int.reduceLE, Int.reduceLT, Int.reduceNeg, reduceMod, sid_ne1, sid_ne2, sid_inj, sid_mod, gT, TK.isInt, TK.agg, Array.toList]
  refine askK_of (c_impl_IsSet _ _) ?_
  simp (maxSteps:=5000000) -dsimp only [↓gp, gq, reduceCtorEq, reduceEqDiff, reduceLT, reduceLeDiff, reduceAdd, reduceMul, reduceSub, Nat.reduceBEq, Int.reduceToNat, Int.reduceLE, Int.reduceLT, Int.reduceNeg, reduceMod, sid_ne1, sid_ne2, sid_inj, sid_mod, gT, TK.isInt, TK.agg, Array.toList, inSet_6]
  unfold befS
  refine ⟨fun h => askK_of (c_impl_IsSet _ _) ?_, fun h => ?_⟩
  · have ha : decide (0 ≤ a ∧ a < 64) = true := by simpa using h
    simp (maxSteps:=5000000) -dsimp only [↓gp, gq, reduceCtorEq, reduceEqDiff, reduceLT, reduceLeDiff, reduceAdd, reduceMul, reduceSub, Nat.reduceBEq, Int.reduceToNat, Int.reduceLE, Int.reduceLT, Int.reduceNeg, reduceMod, sid_ne1, sid_ne2, sid_inj, sid_mod, gT, TK.isInt, TK.agg, Array.toList, inSet_6]
    rw [ha]
    refine ⟨fun hb => ?_, fun hb => ?_⟩
    · have hb : decide (0 ≤ b ∧ b < 64) = false := by rwa [Bool.not_eq_true'] at hb
      rw [hb]; rfl
    · have hb : decide (0 ≤ b ∧ b < 64) = true := by simpa using hb
      rw [hb]
      refine askK_of (c_impl_SizeOf a) ?_
      simp (maxSteps:=5000000) -dsimp only [↓gp, gq, reduceCtorEq, reduceEqDiff, reduceLT, reduceLeDiff, reduceAdd, reduceMul, reduceSub, Nat.reduceBEq, Int.reduceToNat, Int.reduceLE, Int.reduceLT, Int.reduceNeg, reduceMod, sid_ne1, sid_ne2, sid_inj, sid_mod, gT, TK.isInt, TK.agg, Array.toList]
      refine askK_of (c_impl_SizeOf b) ?_
      simp (maxSteps:=5000000) -dsimp only [↓gp, gq, reduceCtorEq, reduceEqDiff, reduceLT, reduceLeDiff, reduceAdd, reduceMul, reduceSub, Nat.reduceBEq, Int.reduceToNat, Int.reduceLE, Int.reduceLT, Int.reduceNeg, reduceMod, sid_ne1, sid_ne2, sid_inj, sid_mod, gT, TK.isInt, TK.agg, Array.toList]
      refine ⟨fun hs => askK_of (c_impl_SizeOf a) ?_, fun hs => ?_⟩
      · simp (maxSteps:=5000000) -dsimp only [↓gp, gq, reduceCtorEq, reduceEqDiff, reduceLT, reduceLeDiff, reduceAdd, reduceMul, reduceSub, Nat.reduceBEq, Int.reduceToNat, Int.reduceLE, Int.reduceLT, Int.reduceNeg, reduceMod, sid_ne1, sid_ne2, sid_inj, sid_mod, gT, TK.isInt, TK.agg, Array.toList]
        refine askK_of (c_impl_SizeOf b) ?_
        simp (maxSteps:=5000000) -dsimp only [↓gp, gq, reduceCtorEq, reduceEqDiff, reduceLT, reduceLeDiff, reduceAdd, reduceMul, reduceSub, Nat.reduceBEq, Int.reduceToNat, Int.reduceLE, Int.reduceLT, Int.reduceNeg, reduceMod, sid_ne1, sid_ne2, sid_inj, sid_mod, gT, TK.isInt, TK.agg, Array.toList]
        have hs : ¬ szOf a = szOf b := by simpa using hs
        rw [if_neg hs]
      · have hs : szOf a = szOf b := by simpa using hs
        rw [if_pos hs]
  · have ha : decide (0 ≤ a ∧ a < 64) = false := by rwa [Bool.not_eq_true'] at h
    rw [ha]; rfl
theorem iand_255 (x : Int) : 0 ≤ iand .i64 x 255 ∧ iand .i64 x 255 < 256 := by
  have h2 : (BitVec.ofInt 64 (255 : Int)).toNat = 255 := by decide
  have e : iand .i64 x 255 = IntKind.i64.wrap (((BitVec.ofInt 64 x &&& BitVec.ofInt 64 255).toNat : Nat) : Int) := rfl
  have : (BitVec.ofInt 64 x &&& BitVec.ofInt 64 255).toNat ≤ 255 := by
    rw [BitVec.toNat_and, h2]; exact Nat.and_le_right
  rw [e, wrap_id (by omega) (by omega)]
  omega
abbrev TC : TypeId := 113
def kint (P : Int → Prop) (rv : RV) : Prop := ∃ x, rv = .im (int x) ∧ P x
def crH (h : Int) : Int := IntKind.i64.wrap (IntKind.i64.wrap (h * 6364136223846793005) + 1442695040888963407)
def kbool (rv : RV) : Prop := ∃ b, rv = .im (bool b)
theorem c_spec_l1New (bs : List Int) : ANewCur Tryz.prog 82 TC bs := by
  refine AG.go (rs := [.tmp 2]) T_ok mixed Tryz.func82 rfl rfl rfl (by kernel_rfl) fun hl _ s hs hR => ?_
  simp only [lens_cons, lens_nil, and_true] at hl
  have hbl : bs.length ≤ 9223372036854775807 := by
    have := hl.1
    simpa [kL] using this
  simp (maxSteps:=5000000) -dsimp only [↓gp, gq, reduceCtorEq, reduceEqDiff, reduceLT, reduceLeDiff, reduceAdd, reduceMul, reduceSub, Nat.reduceBEq, Int.reduceToNat, Int.reduceLE, Int.reduceLT, Int.reduceNeg, reduceMod, sid_ne1, sid_ne2, sid_inj, sid_mod, gT, TK.isInt, TK.agg, Array.toList, hs, hR, opK_assign_ptr]
  refine loop_of (fun (za : Nat × Int) s => match za with | (i, h) => s.sl 0 = .sl false 1 (kL .u8 bs) ∧ s.sl 3 = int h ∧ s.sl 4 = int i ∧ (i ≤ bs.length)) (fun (i, h) => bs.length - i) ((0, IntKind.i64.wrap (26583 + (bs.length : Int)))) (by refine ⟨?_, ?_, ?_, by simp⟩ <;> (first | (simp (maxSteps:=5000000) -dsimp only [gr, reduceEqDiff, reduceLT, reduceAdd, reduceMod, Nat.reduceBEq, sid_mod, sid_ne1, sid_ne2, sid_inj, hs]; first | done | rfl | (simp; done)) | assumption | rfl)) ?_
  intro (i, h) sa ⟨h0a, h3a, h4a, hIa⟩
  simp (maxSteps:=5000000) -dsimp only [↓gp, gq, reduceCtorEq, reduceEqDiff, reduceLT, reduceLeDiff, reduceAdd, reduceMul, reduceSub, Nat.reduceBEq, Int.reduceToNat, Int.reduceLE, Int.reduceLT, Int.reduceNeg, reduceMod, sid_ne1, sid_ne2, sid_inj, sid_mod, gT, TK.isInt, TK.agg, Array.toList, h0a, h3a, h4a]
  have hw : ∀ hk : i < bs.length, IntKind.i64.wrap ((i : Int) + 1) = ((i + 1 : Nat) : Int) := fun hk => wrap_nat hk hbl
  refine ⟨fun hk => ⟨fun h4 => ⟨hk, hk, ?_⟩, fun h4 => ?_⟩, fun hk => ?_⟩
  · exact again_of ((i + 1, iand .i64 (IntKind.i64.wrap (IntKind.i64.wrap (IntKind.i64.wrap (h * 131) + IntKind.i64.wrap (bs.getD i 0)) + 7)) 1073741823)) (by refine ⟨?_, ?_, ?_, by dsimp only; omega⟩ <;> (first | (simp (maxSteps:=5000000) -dsimp only [gr, reduceEqDiff, reduceLT, reduceAdd, reduceMod, Nat.reduceBEq, sid_mod, sid_ne1, sid_ne2, sid_inj, h0a, h3a, h4a, hw hk]; first | done | rfl | (simp; done)) | assumption | rfl)) (by first | omega | (simp only; omega) | (dsimp only; omega) | (show _ < _; simp; omega))
  · exact ⟨31, _, h, rfl, by simp (maxSteps:=5000000) -dsimp only [gr, reduceEqDiff, reduceLT, reduceAdd, reduceMod, Nat.reduceBEq, sid_mod, sid_ne1, sid_ne2, sid_inj]; rfl⟩
  · exact ⟨31, _, h, rfl, by simp (maxSteps:=5000000) -dsimp only [gr, reduceEqDiff, reduceLT, reduceAdd, reduceMod, Nat.reduceBEq, sid_mod, sid_ne1, sid_ne2, sid_inj]; rfl⟩
def byF (bs : List Int) (i : Nat) (h : Int) : Int :=
  if i < bs.length then iand .i64 (IntKind.i64.wrap (iand .i64 (ixor .i64 (ishr .i64 (crH h) 33) (ishr .i64 (crH h) 45)) 255 + IntKind.i64.wrap (bs.getD i 0))) 255
  else iand .i64 (ixor .i64 (ishr .i64 (crH h) 33) (ishr .i64 (crH h) 45)) 255
def nxI (bs : List Int) (i : Nat) : Nat := if i < bs.length then i + 1 else i
theorem byF_lt (bs : List Int) (i : Nat) (h : Int) : 0 ≤ byF bs i h ∧ byF bs i h < 256 := by
  unfold byF
  split <;> exact iand_255 _
set_option maxRecDepth 100000 in
theorem c_spec_l1Byte (bs : List Int) (hbs : bs.length ≤ 9223372036854775806) : ACurF Tryz.prog 157 TC bs [] fun i h => (.int .i64 (byF bs i h), nxI bs i, crH h) := by
  intro i h
  refine AG.go (rs := [.tmp 2]) T_ok mixed Tryz.func157 rfl rfl rfl (by kernel_rfl) fun hl _ s hs hR => ?_
  have e0 : s.rw 1000000 = ⟨1, .box TC [.sl false 1 (kL .u8 bs), int i, int h]⟩ := by rw [hR]; rfl
  have e1 : s.rw 1000500 = ⟨0, .dead⟩ := by rw [hR]; rfl
  simp (maxSteps:=5000000) -dsimp only [↓gp, gq, reduceCtorEq, reduceEqDiff, reduceLT, reduceLeDiff, reduceAdd, reduceMul, reduceSub, Nat.reduceBEq, Int.reduceToNat, Int.reduceLE, Int.reduceLT, Int.reduceNeg, reduceMod, sid_ne1, sid_ne2, sid_inj, sid_mod, gT, TK.isInt, TK.agg, Array.toList, hs, e0]
  refine ⟨by kernel_rfl, by kernel_rfl, fun hi => ⟨by kernel_rfl, hi, hi, ?_⟩, fun hi => ?_⟩
  · have hw : IntKind.i64.wrap ((i : Int) + 1) = ((i + 1 : Nat) : Int) := wrap_nat hi (by omega)
    rw [hw]
    refine ⟨by simp only [byF, if_pos hi]; rfl, ?_, by simp (maxSteps:=5000000) -dsimp only [gr, reduceEqDiff, reduceLT, reduceAdd, reduceMod, Nat.reduceBEq, sid_mod, sid_ne1, sid_ne2, sid_inj, e1]⟩
    simp (maxSteps:=5000000) -dsimp only [gr, reduceEqDiff, reduceLT, reduceAdd, reduceMod, Nat.reduceBEq, sid_mod, sid_ne1, sid_ne2, sid_inj, e0]
    simp only [nxI, if_pos hi]
    rfl
  · refine ⟨by simp only [byF, if_neg hi]; rfl, ?_, by simp (maxSteps:=5000000) -dsimp only [gr, reduceEqDiff, reduceLT, reduceAdd, reduceMod, Nat.reduceBEq, sid_mod, sid_ne1, sid_ne2, sid_inj, e1]⟩
    simp (maxSteps:=5000000) -dsimp only [gr, reduceEqDiff, reduceLT, reduceAdd, reduceMod, Nat.reduceBEq, sid_mod, sid_ne1, sid_ne2, sid_inj, e0]
    simp only [nxI, if_neg hi]
    rfl
def belQ (n x : Int) : Prop := 0 ≤ x ∧ (x < n ∨ (n ≤ 0 ∧ x = 0))
theorem bel_mod {n x : Int} (hn : 0 < n) (hx : 0 ≤ x) : belQ n (x.tmod n) := by
  rw [tmod_nn hx]
  exact ⟨Int.emod_nonneg _ (by omega), .inl (Int.emod_lt_of_pos _ hn)⟩
theorem bel_nat {n : Nat} {x : Int} (hn : 0 < n) (hx : belQ n x) : ∃ m : Nat, x = m ∧ m < n := by
  obtain ⟨h1, h2 | ⟨h2, h3⟩⟩ := hx
  · exact ⟨x.toNat, by omega, by omega⟩
  · omega
def beF (bs : List Int) (n : Int) (i : Nat) (h : Int) : Value × Nat × Int :=
  if n ≤ 0 then (.int .i64 0, i, h)
  else if n ≤ 256 then (.int .i64 ((byF bs i h).tmod n), nxI bs i, crH h)
  else (.int .i64 ((byF bs i h * 16777216 + byF bs (nxI bs i) (crH h) * 65536 + byF bs (nxI bs (nxI bs i)) (crH (crH h)) * 256 + byF bs (nxI bs (nxI bs (nxI bs i))) (crH (crH (crH h)))).tmod n), nxI bs (nxI bs (nxI bs (nxI bs i))), crH (crH (crH (crH h))))
theorem beF_int (bs : List Int) (n : Int) (i : Nat) (h : Int) : kint (belQ n) (.im (.v (beF bs n i h).1)) := by
  unfold beF
  have b1 := byF_lt bs i h
  have b2 := byF_lt bs (nxI bs i) (crH h)
  have b3 := byF_lt bs (nxI bs (nxI bs i)) (crH (crH h))
  have b4 := byF_lt bs (nxI bs (nxI bs (nxI bs i))) (crH (crH (crH h)))
  split
  · rename_i h0
    exact ⟨0, rfl, Int.le_refl _, .inr ⟨h0, rfl⟩⟩
  · split
    · exact ⟨_, rfl, bel_mod (by omega) (by omega)⟩
    · exact ⟨_, rfl, bel_mod (by omega) (by omega)⟩
theorem beF_at (bs : List Int) (n : Int) (i : Nat) (h : Int) : ∃ (x : Int) (j : Nat) (g : Int), beF bs n i h = (.int .i64 x, j, g) ∧ belQ n x := by
  obtain ⟨x, hx, hq⟩ := beF_int bs n i h
  injection hx with hx
  injection hx with hx
  exact ⟨x, (beF bs n i h).2.1, (beF bs n i h).2.2, by rw [← hx], hq⟩
theorem plain_int (n : Int) : plain [int n] := fun p hp => by rw [List.mem_singleton.1 hp]; rfl
set_option maxRecDepth 100000 in
theorem c_spec_l1BelowF (bs : List Int) (hbs : bs.length ≤ 9223372036854775806) (n : Int) (hn : n ≤ 1000000) : ACurF Tryz.prog 81 TC bs [int n] (beF bs n) := by
  intro i h
  refine AG.go (rs := [.tmp 4]) T_ok mixed Tryz.func81 rfl rfl rfl (by kernel_rfl) fun hl _ s hs hR => ?_
  have e0 : s.rw 1000000 = ⟨1, .box TC [.sl false 1 (kL .u8 bs), int i, int h]⟩ := by rw [hR]; rfl
  have e1 : s.rw 1000500 = ⟨0, .dead⟩ := by rw [hR]; rfl
  have hc := c_spec_l1Byte bs hbs
  have hp : plain [] := fun _ h => absurd h (by simp)
  have b1 := byF_lt bs i h
  have b2 := byF_lt bs (nxI bs i) (crH h)
  have b3 := byF_lt bs (nxI bs (nxI bs i)) (crH (crH h))
  have b4 := byF_lt bs (nxI bs (nxI bs (nxI bs i))) (crH (crH (crH h)))
  simp (maxSteps:=5000000) -dsimp only [↓gp, gq, reduceCtorEq, reduceEqDiff, reduceLT, reduceLeDiff, reduceAdd, reduceMul, reduceSub, Nat.reduceBEq, Int.reduceToNat, Int.reduceLE, Int.reduceLT, Int.reduceNeg, reduceMod, sid_ne1, sid_ne2, sid_inj, sid_mod, gT, TK.isInt, TK.agg, Array.toList, hs, e0]
  refine ⟨fun h0 => ?_, fun h0 => ⟨fun h1 => ?_, fun h1 => ?_⟩⟩
  · unfold beF; rw [if_pos h0]
    exact ⟨rfl, by simp (maxSteps:=5000000) -dsimp only [gr, reduceEqDiff, reduceLT, reduceAdd, reduceMod, Nat.reduceBEq, sid_mod, sid_ne1, sid_ne2, sid_inj, e0] <;> rfl, by simp (maxSteps:=5000000) -dsimp only [gr, reduceEqDiff, reduceLT, reduceAdd, reduceMod, Nat.reduceBEq, sid_mod, sid_ne1, sid_ne2, sid_inj, e1]⟩
  · refine askF_of' hc hp (i := i) (h := h) (by simp (maxSteps:=5000000) -dsimp only [gr, reduceEqDiff, reduceLT, reduceAdd, reduceMod, Nat.reduceBEq, sid_mod, sid_ne1, sid_ne2, sid_inj, e0] <;> rfl) rfl ?_
    simp (maxSteps:=5000000) -dsimp only [↓gp, gq, reduceCtorEq, reduceEqDiff, reduceLT, reduceLeDiff, reduceAdd, reduceMul, reduceSub, Nat.reduceBEq, Int.reduceToNat, Int.reduceLE, Int.reduceLT, Int.reduceNeg, reduceMod, sid_ne1, sid_ne2, sid_inj, sid_mod, gT, TK.isInt, TK.agg, Array.toList, hs, e0]
    unfold beF; rw [if_neg h0, if_pos h1]
    exact ⟨by omega, rfl, by simp (maxSteps:=5000000) -dsimp only [gr, reduceEqDiff, reduceLT, reduceAdd, reduceMod, Nat.reduceBEq, sid_mod, sid_ne1, sid_ne2, sid_inj, e0] <;> rfl, by simp (maxSteps:=5000000) -dsimp only [gr, reduceEqDiff, reduceLT, reduceAdd, reduceMod, Nat.reduceBEq, sid_mod, sid_ne1, sid_ne2, sid_inj, e1]⟩
  · refine askF_of' hc hp (i := i) (h := h) (by simp (maxSteps:=5000000) -dsimp only [gr, reduceEqDiff, reduceLT, reduceAdd, reduceMod, Nat.reduceBEq, sid_mod, sid_ne1, sid_ne2, sid_inj, e0] <;> rfl) rfl ?_
    simp (maxSteps:=5000000) -dsimp only [↓gp, gq, reduceCtorEq, reduceEqDiff, reduceLT, reduceLeDiff, reduceAdd, reduceMul, reduceSub, Nat.reduceBEq, Int.reduceToNat, Int.reduceLE, Int.reduceLT, Int.reduceNeg, reduceMod, sid_ne1, sid_ne2, sid_inj, sid_mod, gT, TK.isInt, TK.agg, Array.toList, hs, e0]
    refine askF_of' hc hp (i := nxI bs i) (h := crH h) (by simp (maxSteps:=5000000) -dsimp only [gr, reduceEqDiff, reduceLT, reduceAdd, reduceMod, Nat.reduceBEq, sid_mod, sid_ne1, sid_ne2, sid_inj, e0] <;> rfl) rfl ?_
    simp (maxSteps:=5000000) -dsimp only [↓gp, gq, reduceCtorEq, reduceEqDiff, reduceLT, reduceLeDiff, reduceAdd, reduceMul, reduceSub, Nat.reduceBEq, Int.reduceToNat, Int.reduceLE, Int.reduceLT, Int.reduceNeg, reduceMod, sid_ne1, sid_ne2, sid_inj, sid_mod, gT, TK.isInt, TK.agg, Array.toList, hs, e0]
    refine askF_of' hc hp (i := nxI bs (nxI bs i)) (h := crH (crH h)) (by simp (maxSteps:=5000000) -dsimp only [gr, reduceEqDiff, reduceLT, reduceAdd, reduceMod, Nat.reduceBEq, sid_mod, sid_ne1, sid_ne2, sid_inj, e0] <;> rfl) rfl ?_
    simp (maxSteps:=5000000) -dsimp only [↓gp, gq, reduceCtorEq, reduceEqDiff, reduceLT, reduceLeDiff, reduceAdd, reduceMul, reduceSub, Nat.reduceBEq, Int.reduceToNat, Int.reduceLE, Int.reduceLT, Int.reduceNeg, reduceMod, sid_ne1, sid_ne2, sid_inj, sid_mod, gT, TK.isInt, TK.agg, Array.toList, hs, e0]
    refine askF_of' hc hp (i := nxI bs (nxI bs (nxI bs i))) (h := crH (crH (crH h))) (by simp (maxSteps:=5000000) -dsimp only [gr, reduceEqDiff, reduceLT, reduceAdd, reduceMod, Nat.reduceBEq, sid_mod, sid_ne1, sid_ne2, sid_inj, e0] <;> rfl) rfl ?_
    generalize hx : byF bs i h = x at *
    generalize hy : byF bs (nxI bs i) (crH h) = y at *
    generalize hz : byF bs (nxI bs (nxI bs i)) (crH (crH h)) = z at *
    generalize hw : byF bs (nxI bs (nxI bs (nxI bs i))) (crH (crH (crH h))) = w at *
    have w1 : IntKind.i64.wrap (x * 16777216) = x * 16777216 := wrap_id (by omega) (by omega)
    have w2 : IntKind.i64.wrap (y * 65536) = y * 65536 := wrap_id (by omega) (by omega)
    have w3 : IntKind.i64.wrap (x * 16777216 + y * 65536) = x * 16777216 + y * 65536 := wrap_id (by omega) (by omega)
    have w4 : IntKind.i64.wrap (z * 256) = z * 256 := wrap_id (by omega) (by omega)
    have w5 : IntKind.i64.wrap (x * 16777216 + y * 65536 + z * 256) = x * 16777216 + y * 65536 + z * 256 := wrap_id (by omega) (by omega)
    have w6 : IntKind.i64.wrap (x * 16777216 + y * 65536 + z * 256 + w) = x * 16777216 + y * 65536 + z * 256 + w := wrap_id (by omega) (by omega)
    simp (maxSteps:=5000000) -dsimp only [↓gp, gq, reduceCtorEq, reduceEqDiff, reduceLT, reduceLeDiff, reduceAdd, reduceMul, reduceSub, Nat.reduceBEq, Int.reduceToNat, Int.reduceLE, Int.reduceLT, Int.reduceNeg, reduceMod, sid_ne1, sid_ne2, sid_inj, sid_mod, gT, TK.isInt, TK.agg, Array.toList, hs, e0, w1, w2, w3, w4, w5, w6]
    unfold beF; rw [if_neg h0, if_neg h1, hx, hy, hz, hw]
    exact ⟨by omega, rfl, by simp (maxSteps:=5000000) -dsimp only [gr, reduceEqDiff, reduceLT, reduceAdd, reduceMod, Nat.reduceBEq, sid_mod, sid_ne1, sid_ne2, sid_inj, e0] <;> rfl, by simp (maxSteps:=5000000) -dsimp only [gr, reduceEqDiff, reduceLT, reduceAdd, reduceMod, Nat.reduceBEq, sid_mod, sid_ne1, sid_ne2, sid_inj, e1]⟩
theorem c_spec_l1Below (bs : List Int) (hbs : bs.length ≤ 9223372036854775806) (n : Int) (hn : n ≤ 1000000) : ACur Tryz.prog 81 TC bs ⟨0, .dead⟩ [int n] (kint (belQ n)) :=
  (c_spec_l1BelowF bs hbs n hn).toCur fun i h => beF_int bs n i h
def onF (bs : List Int) (n : Int) (i : Nat) (h : Int) : Value × Nat × Int := ((match (beF bs n i h).1 with | .int _ x => .bool (x == 0) | _ => .bool false), (beF bs n i h).2)
theorem c_spec_l1OnceF (bs : List Int) (hbs : bs.length ≤ 9223372036854775806) (n : Int) (hn : n ≤ 1000000) : ACurF Tryz.prog 85 TC bs [int n] (onF bs n) := by
  intro i h
  refine AG.go (rs := [.tmp 4]) T_ok mixed Tryz.func85 rfl rfl rfl (by kernel_rfl) fun hl _ s hs hR => ?_
  have e0 : s.rw 1000000 = ⟨1, .box TC [.sl false 1 (kL .u8 bs), int i, int h]⟩ := by rw [hR]; rfl
  have e1 : s.rw 1000500 = ⟨0, .dead⟩ := by rw [hR]; rfl
  simp (maxSteps:=5000000) -dsimp only [↓gp, gq, reduceCtorEq, reduceEqDiff, reduceLT, reduceLeDiff, reduceAdd, reduceMul, reduceSub, Nat.reduceBEq, Int.reduceToNat, Int.reduceLE, Int.reduceLT, Int.reduceNeg, reduceMod, sid_ne1, sid_ne2, sid_inj, sid_mod, gT, TK.isInt, TK.agg, Array.toList, hs, e0]
  refine askF_of' (c_spec_l1BelowF bs hbs n hn) (plain_int n) (i := i) (h := h) (by simp (maxSteps:=5000000) -dsimp only [gr, reduceEqDiff, reduceLT, reduceAdd, reduceMod, Nat.reduceBEq, sid_mod, sid_ne1, sid_ne2, sid_inj, e0] <;> rfl) rfl ?_
  unfold onF
  obtain ⟨y, j3, g3, hr, hy⟩ := beF_at bs n i h
  rw [hr]
  simp (maxSteps:=5000000) -dsimp only [↓gp, gq, reduceCtorEq, reduceEqDiff, reduceLT, reduceLeDiff, reduceAdd, reduceMul, reduceSub, Nat.reduceBEq, Int.reduceToNat, Int.reduceLE, Int.reduceLT, Int.reduceNeg, reduceMod, sid_ne1, sid_ne2, sid_inj, sid_mod, gT, TK.isInt, TK.agg, Array.toList, hs, e0]
  exact ⟨rfl, by simp (maxSteps:=5000000) -dsimp only [gr, reduceEqDiff, reduceLT, reduceAdd, reduceMod, Nat.reduceBEq, sid_mod, sid_ne1, sid_ne2, sid_inj, e0] <;> rfl, by simp (maxSteps:=5000000) -dsimp only [gr, reduceEqDiff, reduceLT, reduceAdd, reduceMod, Nat.reduceBEq, sid_mod, sid_ne1, sid_ne2, sid_inj, e1]⟩
theorem onF_at (bs : List Int) (n : Int) (i : Nat) (h : Int) : ∃ (x : Bool) (j : Nat) (g : Int), onF bs n i h = (.bool x, j, g) := by
  obtain ⟨y, j3, g3, hr, hy⟩ := beF_at bs n i h
  unfold onF
  rw [hr]
  exact ⟨_, _, _, rfl⟩
theorem c_spec_l1Once (bs : List Int) (hbs : bs.length ≤ 9223372036854775806) (n : Int) (hn : n ≤ 1000000) : ACur Tryz.prog 85 TC bs ⟨0, .dead⟩ [int n] kbool :=
  (c_spec_l1OnceF bs hbs n hn).toCur fun i h => by obtain ⟨x, j, g, e⟩ := onF_at bs n i h; rw [e]; exact ⟨x, rfl⟩
def piF (bs : List Int) (l : List Int) (i : Nat) (h : Int) : Value × Nat × Int := ((match (beF bs l.length i h).1 with | .int _ x => .int .i64 (l.getD x.toNat 0) | _ => .int .i64 0), (beF bs l.length i h).2)
theorem piF_at (bs : List Int) {l : List Int} (hl : 0 < l.length) (i : Nat) (h : Int) : ∃ (x : Int) (j : Nat) (g : Int), piF bs l i h = (.int .i64 x, j, g) ∧ x ∈ l := by
  obtain ⟨y, j3, g3, hr, hy⟩ := beF_at bs l.length i h
  obtain ⟨m, rfl, hm⟩ := bel_nat hl hy
  unfold piF
  rw [hr]
  exact ⟨_, _, _, rfl, getD_mem 0 hm⟩
theorem c_spec_l1PickIntL (bs : List Int) (hbs : bs.length ≤ 9223372036854775806) (l : List Int) (hl0 : 0 < l.length) (hl1 : l.length ≤ 1000000) : ACurL Tryz.prog 126 TC bs 3 (iL l) (piF bs l) := by
  intro i h
  refine AG.go (rs := [.tmp 4]) T_ok mixed Tryz.func126 rfl rfl rfl (by kernel_rfl) fun hl _ s hs hR => ?_
  have e0 : s.rw 1000000 = ⟨1, .box TC [.sl false 1 (kL .u8 bs), int i, int h]⟩ := by rw [hR]; rfl
  have e1 : s.rw 1000500 = ⟨1, .sli 3 1 false (iL l)⟩ := by rw [hR]; rfl
  simp (maxSteps:=5000000) -dsimp only [↓gp, gq, reduceCtorEq, reduceEqDiff, reduceLT, reduceLeDiff, reduceAdd, reduceMul, reduceSub, Nat.reduceBEq, Int.reduceToNat, Int.reduceLE, Int.reduceLT, Int.reduceNeg, reduceMod, sid_ne1, sid_ne2, sid_inj, sid_mod, gT, TK.isInt, TK.agg, Array.toList, hs, e0, e1]
  refine askF_of' (c_spec_l1BelowF bs hbs l.length (by omega)) (plain_int _) (i := i) (h := h) (by simp (maxSteps:=5000000) -dsimp only [gr, reduceEqDiff, reduceLT, reduceAdd, reduceMod, Nat.reduceBEq, sid_mod, sid_ne1, sid_ne2, sid_inj, e0] <;> rfl) rfl ?_
  unfold piF
  obtain ⟨y, j3, g3, hr, hy⟩ := beF_at bs l.length i h
  obtain ⟨m, rfl, hm⟩ := bel_nat hl0 hy
  rw [hr]
  simp (maxSteps:=5000000) -dsimp only [↓gp, gq, reduceCtorEq, reduceEqDiff, reduceLT, reduceLeDiff, reduceAdd, reduceMul, reduceSub, Nat.reduceBEq, Int.reduceToNat, Int.reduceLE, Int.reduceLT, Int.reduceNeg, reduceMod, sid_ne1, sid_ne2, sid_inj, sid_mod, gT, TK.isInt, TK.agg, Array.toList, hs, e0, e1]
  exact ⟨by omega, hm, rfl, by simp (maxSteps:=5000000) -dsimp only [gr, reduceEqDiff, reduceLT, reduceAdd, reduceMod, Nat.reduceBEq, sid_mod, sid_ne1, sid_ne2, sid_inj, e0] <;> rfl, by simp (maxSteps:=5000000) -dsimp only [gr, reduceEqDiff, reduceLT, reduceAdd, reduceMod, Nat.reduceBEq, sid_mod, sid_ne1, sid_ne2, sid_inj, e1] <;> rfl⟩
theorem c_spec_l1PickInt (bs : List Int) (hbs : bs.length ≤ 9223372036854775806) (l : List Int) (hl0 : 0 < l.length) (hl1 : l.length ≤ 1000000) : ACur Tryz.prog 126 TC bs ⟨1, .sli 3 1 false (iL l)⟩ [.own 1000500 1] (kint fun x => x ∈ l) :=
  (c_spec_l1PickIntL bs hbs l hl0 hl1).toCur fun i h => by obtain ⟨x, j, g, e, hx⟩ := piF_at bs hl0 i h; rw [e]; exact ⟨x, rfl, hx⟩
theorem c_spec_l1Pick (bs : List Int) (hbs : bs.length ≤ 9223372036854775806) (l : List ByteArray) (hl0 : 0 < l.length) (hl1 : l.length ≤ 1000000) : ACur Tryz.prog 202 TC bs ⟨1, .sli 9 1 false (sL l)⟩ [.own 1000500 1] (fun rv => ∃ x, rv = .im (str x) ∧ x ∈ l) := by
  intro i h
  refine AG.go (rs := [.tmp 4]) T_ok mixed Tryz.func202 rfl rfl rfl (by kernel_rfl) fun hl _ s hs hR => ?_
  have e0 : s.rw 1000000 = ⟨1, .box TC [.sl false 1 (kL .u8 bs), int i, int h]⟩ := by rw [hR]; rfl
  have e1 : s.rw 1000500 = ⟨1, .sli 9 1 false (sL l)⟩ := by rw [hR]; rfl
  have hsl : (sL l).length = l.length := by simp [sL]
  simp (maxSteps:=5000000) -dsimp only [↓gp, gq, reduceCtorEq, reduceEqDiff, reduceLT, reduceLeDiff, reduceAdd, reduceMul, reduceSub, Nat.reduceBEq, Int.reduceToNat, Int.reduceLE, Int.reduceLT, Int.reduceNeg, reduceMod, sid_ne1, sid_ne2, sid_inj, sid_mod, gT, TK.isInt, TK.agg, Array.toList, hs, e0, e1, hsl]
  refine askCur_of (c_spec_l1Below bs hbs l.length (by omega)) .none (by simp (maxSteps:=5000000) -dsimp only [gr, reduceEqDiff, reduceLT, reduceAdd, reduceMod, Nat.reduceBEq, sid_mod, sid_ne1, sid_ne2, sid_inj, e0, e1, hsl] <;> rfl) (GvL.one (gv_cur (by simp (maxSteps:=5000000) -dsimp only [gr, reduceEqDiff, reduceLT, reduceAdd, reduceMod, Nat.reduceBEq, sid_mod, sid_ne1, sid_ne2, sid_inj, e0, e1, hsl] <;> rfl)) (by repeat (first | exact GvL.nil | refine GvL.one (GvA.v _) ?_ | refine GvL.one (GvA.sl _ _ _) ?_))) rfl (fun _ h => by cases h) fun rv i1 g1 ⟨x, hrv, hx⟩ => ?_
  subst hrv
  obtain ⟨m, rfl, hm⟩ := bel_nat hl0 hx
  simp (maxSteps:=5000000) -dsimp only [↓gp, gq, reduceCtorEq, reduceEqDiff, reduceLT, reduceLeDiff, reduceAdd, reduceMul, reduceSub, Nat.reduceBEq, Int.reduceToNat, Int.reduceLE, Int.reduceLT, Int.reduceNeg, reduceMod, sid_ne1, sid_ne2, sid_inj, sid_mod, gT, TK.isInt, TK.agg, Array.toList, hs, e0, e1, hsl]
  refine ⟨by omega, hm, ?_⟩
  exact ⟨_, i1, g1, [], ⟨_, rfl, getD_mem _ hm⟩, .one (.lf (.im _)), List.nodup_nil, by simp (maxSteps:=5000000) -dsimp only [gr, reduceEqDiff, reduceLT, reduceAdd, reduceMod, Nat.reduceBEq, sid_mod, sid_ne1, sid_ne2, sid_inj, e0] <;> rfl, by simp (maxSteps:=5000000) -dsimp only [gr, reduceEqDiff, reduceLT, reduceAdd, reduceMod, Nat.reduceBEq, sid_mod, sid_ne1, sid_ne2, sid_inj, e1] <;> rfl⟩
theorem c_impl_hasSet (F s : Nat) (hF : F < 18446744073709551616) (hs : s < 64) : AC Tryz.prog 98 [u64 F, int s] (.im (bool (F.testBit s))) := by
  refine AC.go (rs := [.tmp 4]) T_ok mixed Tryz.func98 rfl rfl rfl (by kernel_rfl) fun hl => ?_
  have hw : IntKind.u64.wrap (s : Int) = (s : Int) := uwrap_id (by omega)
  simp (maxSteps:=5000000) -dsimp only [↓gp, gq, reduceCtorEq, reduceEqDiff, reduceLT, reduceLeDiff, reduceAdd, reduceMul, reduceSub, Nat.reduceBEq, Int.reduceToNat, Int.reduceLE, Int.reduceLT, Int.reduceNeg, reduceMod, sid_ne1, sid_ne2, sid_inj, sid_mod, gT, TK.isInt, TK.agg, Array.toList, hw, bit_test hF hs]
theorem filt_yes {l : List Nat} {p : Nat → Bool} {k : Nat} (h : k < l.length) (hp : p (l.getD k 0) = true) : (l.take (k + 1)).filter p = (l.take k).filter p ++ [l.getD k 0] := by
  rw [take_snoc 0 h, List.filter_append]; simp only [List.filter_cons, hp, if_true, List.filter_nil]
theorem filt_no {l : List Nat} {p : Nat → Bool} {k : Nat} (h : k < l.length) (hp : p (l.getD k 0) = false) : (l.take (k + 1)).filter p = (l.take k).filter p := by
  rw [take_snoc 0 h, List.filter_append]; simp only [List.filter_cons, hp, Bool.false_eq_true, if_false, List.filter_nil, List.append_nil]
theorem filt_len {l : List Nat} {p : Nat → Bool} : (l.filter p).length ≤ l.length := List.length_filter_le _ _
noncomputable def inF (xs : List Int) (s : Nat) : Bool := decide ((s : Int) ∈ xs)
noncomputable def hasRow (xs : List Int) (k : Nat) : List Bool := (List.range 64).map fun s => inF (xs.take k) s
theorem hasRow_length (xs : List Int) (k : Nat) : (hasRow xs k).length = 64 := by simp [hasRow]
theorem hasRow_zero (xs : List Int) : List.replicate 64 false = hasRow xs 0 := by
  refine List.ext_getElem (by simp [hasRow]) fun j h1 h2 => ?_
  rw [List.getElem_replicate]
  simp [hasRow, inF]
theorem hasRow_set {xs : List Int} {k : Nat} (h : k < xs.length) (hx : 0 ≤ xs.getD k 0 ∧ xs.getD k 0 < 64) : (hasRow xs k).set (xs.getD k 0).toNat true = hasRow xs (k + 1) := by
  refine List.ext_getElem (by simp [hasRow]) fun j h1 h2 => ?_
  simp only [hasRow, List.getElem_set, List.getElem_map, List.getElem_range]
  have e : inF (xs.take (k + 1)) j = (inF (xs.take k) j || decide ((j : Int) = xs.getD k 0)) := by
    unfold inF
    rw [take_snoc 0 h, ← Bool.decide_or]
    exact decide_eq_decide.2 (by simp only [List.mem_append, List.mem_singleton])
  rw [e]
  by_cases hj : (xs.getD k 0).toNat = j
  · rw [if_pos hj]
    have : (j : Int) = xs.getD k 0 := by omega
    simp only [this, decide_true, Bool.or_true]
  · rw [if_neg hj]
    have : ¬ (j : Int) = xs.getD k 0 := by omega
    simp only [this, decide_false, Bool.or_false]
theorem c_spec_l2Order (xs : List Int) (hx : ∀ x ∈ xs, 0 ≤ x ∧ x < 64) : AC Tryz.prog 165 [ints xs] (.fr 3 1 (iL (ofN (ordN (inF xs))))) := by
  refine AC.go (rs := [.tmp 2]) T_ok mixed Tryz.func165 rfl rfl rfl (by kernel_rfl) fun hl => ?_
  simp only [lens_cons, lens_nil, and_true, lens2_v, lens2_iL, true_and] at hl
  simp (maxSteps:=5000000) -dsimp only [↓gp, gq, reduceCtorEq, reduceEqDiff, reduceLT, reduceLeDiff, reduceAdd, reduceMul, reduceSub, Nat.reduceBEq, Int.reduceToNat, Int.reduceLE, Int.reduceLT, Int.reduceNeg, reduceMod, sid_ne1, sid_ne2, sid_inj, sid_mod, gT, TK.isInt, TK.agg, Array.toList]
  refine ⟨by decide, ?_⟩
  refine loop_of (fun (za : Nat × Nat) s => match za with | (k, v) => s.sl 0 = ints xs ∧ s.sl 3 = .own 8 v ∧ s.rw 8 = ⟨v, .sli 4 1 false (bL (hasRow xs k))⟩ ∧ s.sl 4 = int k ∧ (k ≤ xs.length)) (fun (k, v) => xs.length - k) ((0, 1)) (by refine ⟨?_, ?_, ?_, ?_, by simp⟩ <;> (first | (simp (maxSteps:=5000000) -dsimp only [gr, reduceEqDiff, reduceLT, reduceAdd, reduceMod, Nat.reduceBEq, sid_mod, sid_ne1, sid_ne2, sid_inj, bL_replicate, hasRow_zero, Int.reduceToNat]; first | done | rfl | (simp; done)) | assumption | rfl)) ?_
  intro (k, v) sa ⟨h0a, h3a, r8a, h4a, hIa⟩
  simp (maxSteps:=5000000) -dsimp only [↓gp, gq, reduceCtorEq, reduceEqDiff, reduceLT, reduceLeDiff, reduceAdd, reduceMul, reduceSub, Nat.reduceBEq, Int.reduceToNat, Int.reduceLE, Int.reduceLT, Int.reduceNeg, reduceMod, sid_ne1, sid_ne2, sid_inj, sid_mod, gT, TK.isInt, TK.agg, Array.toList, h0a, h3a, r8a, h4a, hasRow_length]
  refine ⟨fun hk => ?_, fun hk => ?_⟩
  · have hx1 := hx _ (getD_mem 0 hk)
    refine ⟨hk, hk, by omega, by omega, by omega, ?_⟩
    exact again_of ((k + 1, v)) (by refine ⟨?_, ?_, ?_, ?_, by omega⟩ <;> (first | (simp (maxSteps:=5000000) -dsimp only [gr, reduceEqDiff, reduceLT, reduceAdd, reduceMod, Nat.reduceBEq, sid_mod, sid_ne1, sid_ne2, sid_inj, h0a, h3a, r8a, h4a, wrap_nat hk hl, hasRow_set hk hx1]; first | done | rfl | (simp; done)) | assumption | rfl)) (by first | omega | (simp only; omega) | (dsimp only; omega) | (show _ < _; simp; omega))
  · have : k = xs.length := by omega
    subst this
    have hall : ∀ s, s < 64 → (hasRow xs xs.length).getD s false = inF xs s := fun s hs => by
      rw [getD_at false (by rw [hasRow_length]; exact hs)]
      simp [hasRow]
    have hrl := hasRow_length xs xs.length
    generalize hasRow xs xs.length = row at *
    refine loop_of (fun (zb : Nat × Nat × Nat) s => match zb with | (k, v, u) => s.sl 3 = .own 8 u ∧ s.rw 8 = ⟨u, .sli 4 1 false (bL row)⟩ ∧ s.sl 5 = .own 21 v ∧ s.rw 21 = ⟨v, .sli 3 1 false (iL (ofN (ordP (inF xs) k 0)))⟩ ∧ s.sl 6 = int k ∧ (k ≤ 7)) (fun (k, v, u) => 7 - k) ((0, (sa.rw 21).ver + 1, v)) (by refine ⟨?_, ?_, ?_, ?_, ?_, by simp⟩ <;> (first | (simp (maxSteps:=5000000) -dsimp only [gr, reduceEqDiff, reduceLT, reduceAdd, reduceMod, Nat.reduceBEq, sid_mod, sid_ne1, sid_ne2, sid_inj, h0a, h3a, r8a, h4a]; first | done | rfl | (simp; done)) | assumption | rfl)) ?_
    intro (k, v, u) sb ⟨h3b, r8b, h5b, r21b, h6b, hIb⟩
    simp (maxSteps:=5000000) -dsimp only [↓gp, gq, reduceCtorEq, reduceEqDiff, reduceLT, reduceLeDiff, reduceAdd, reduceMul, reduceSub, Nat.reduceBEq, Int.reduceToNat, Int.reduceLE, Int.reduceLT, Int.reduceNeg, reduceMod, sid_ne1, sid_ne2, sid_inj, sid_mod, gT, TK.isInt, TK.agg, Array.toList, h3b, r8b, h5b, r21b, h6b]
    refine ⟨fun hk => ?_, fun hk => ?_⟩
    · refine loop_of (fun (zc : Nat × Nat) s => match zc with | (m, v) => s.sl 3 = .own 8 u ∧ s.rw 8 = ⟨u, .sli 4 1 false (bL row)⟩ ∧ s.sl 5 = .own 21 v ∧ s.rw 21 = ⟨v, .sli 3 1 false (iL (ofN (ordP (inF xs) k m)))⟩ ∧ s.sl 6 = int k ∧ s.sl 7 = int m ∧ (m ≤ 64)) (fun (m, v) => 64 - m) ((0, v)) (by refine ⟨?_, ?_, ?_, ?_, ?_, ?_, by simp⟩ <;> (first | (simp (maxSteps:=5000000) -dsimp only [gr, reduceEqDiff, reduceLT, reduceAdd, reduceMod, Nat.reduceBEq, sid_mod, sid_ne1, sid_ne2, sid_inj, h3b, r8b, h5b, r21b, h6b]; first | done | rfl | (simp; done)) | assumption | rfl)) ?_
      intro (m, v) sc ⟨h3c, r8c, h5c, r21c, h6c, h7c, hIc⟩
      simp (maxSteps:=5000000) -dsimp only [↓gp, gq, reduceCtorEq, reduceEqDiff, reduceLT, reduceLeDiff, reduceAdd, reduceMul, reduceSub, Nat.reduceBEq, Int.reduceToNat, Int.reduceLE, Int.reduceLT, Int.reduceNeg, reduceMod, sid_ne1, sid_ne2, sid_inj, sid_mod, gT, TK.isInt, TK.agg, Array.toList, h3c, r8c, h5c, r21c, h6c, h7c, hrl]
      have hlen := ordP_len (inF xs) k m
      refine ⟨fun hm => ⟨by omega, by omega, ?_⟩, fun hm => ?_⟩
      · have hm : m < 64 := by omega
        rw [hall m hm]
        refine ⟨fun hf => askK_of (c_spec_l2Sizei (by omega) (by omega)) ?_, fun hf => ?_⟩
        · simp (maxSteps:=5000000) -dsimp only [↓gp, gq, reduceCtorEq, reduceEqDiff, reduceLT, reduceLeDiff, reduceAdd, reduceMul, reduceSub, Nat.reduceBEq, Int.reduceToNat, Int.reduceLE, Int.reduceLT, Int.reduceNeg, reduceMod, sid_ne1, sid_ne2, sid_inj, sid_mod, gT, TK.isInt, TK.agg, Array.toList, h3c, r8c, h5c, r21c, h6c, h7c, Int.toNat_natCast]
          refine ⟨fun hp => ?_, fun hp => ?_⟩
          · have hy : ordP (inF xs) k (m + 1) = ordP (inF xs) k m ++ [m] := ordP_yes (by rw [hf]; simp at hp ⊢; omega)
            refine ⟨by rw [ofN_length]; omega, ?_⟩
            exact again_of ((m + 1, v + 1)) (by refine ⟨?_, ?_, ?_, ?_, ?_, ?_, by omega⟩ <;> (first | (simp (maxSteps:=5000000) -dsimp only [gr, reduceEqDiff, reduceLT, reduceAdd, reduceMod, Nat.reduceBEq, sid_mod, sid_ne1, sid_ne2, sid_inj, h3c, r8c, h5c, r21c, h6c, h7c, wrap_nat hm (by omega), hy, ofN_append, ofN_one]; first | done | rfl | (simp; done)) | assumption | rfl)) (by first | omega | (simp only; omega) | (dsimp only; omega) | (show _ < _; simp; omega))
          · have hy : ordP (inF xs) k (m + 1) = ordP (inF xs) k m := ordP_no (by rw [hf]; simp at hp ⊢; omega)
            exact again_of ((m + 1, v)) (by refine ⟨?_, ?_, ?_, ?_, ?_, ?_, by omega⟩ <;> (first | (simp (maxSteps:=5000000) -dsimp only [gr, reduceEqDiff, reduceLT, reduceAdd, reduceMod, Nat.reduceBEq, sid_mod, sid_ne1, sid_ne2, sid_inj, h3c, r8c, h5c, r21c, h6c, h7c, wrap_nat hm (by omega), hy]; first | done | rfl | (simp; done)) | assumption | rfl)) (by first | omega | (simp only; omega) | (dsimp only; omega) | (show _ < _; simp; omega))
        · have hy : ordP (inF xs) k (m + 1) = ordP (inF xs) k m := ordP_no (by rw [hf]; rfl)
          exact again_of ((m + 1, v)) (by refine ⟨?_, ?_, ?_, ?_, ?_, ?_, by omega⟩ <;> (first | (simp (maxSteps:=5000000) -dsimp only [gr, reduceEqDiff, reduceLT, reduceAdd, reduceMod, Nat.reduceBEq, sid_mod, sid_ne1, sid_ne2, sid_inj, h3c, r8c, h5c, r21c, h6c, h7c, wrap_nat hm (by omega), hy]; first | done | rfl | (simp; done)) | assumption | rfl)) (by first | omega | (simp only; omega) | (dsimp only; omega) | (show _ < _; simp; omega))
      · have : m = 64 := by omega
        subst this
        have hk : k < 7 := by omega
        exact again_of ((k + 1, v, u)) (by refine ⟨?_, ?_, ?_, ?_, ?_, by omega⟩ <;> (first | (simp (maxSteps:=5000000) -dsimp only [gr, reduceEqDiff, reduceLT, reduceAdd, reduceMod, Nat.reduceBEq, sid_mod, sid_ne1, sid_ne2, sid_inj, h3b, r8b, h5b, r21b, h6b, h3c, r8c, h5c, r21c, h6c, h7c, wrap_nat hk (by omega), ordP_next]; first | done | rfl | (simp; done)) | assumption | rfl)) (by first | omega | (simp only; omega) | (dsimp only; omega) | (show _ < _; simp; omega))
    · have : k = 7 := by omega
      subst this
      rw [ordP_all]
theorem c_spec_l2Extreme (g : Bool) (xs : List Int) (hx : ∀ x ∈ xs, 0 ≤ x ∧ x < 64) : AC Tryz.prog 184 [ints xs, bool g] (.fr 3 1 (iL (ofN (extN (inF xs) g)))) := by
  refine AC.go (rs := [.tmp 4]) T_ok mixed Tryz.func184 rfl rfl rfl (by kernel_rfl) fun hl => ?_
  simp only [lens_cons, lens_nil, and_true, lens2_v, lens2_iL, true_and] at hl
  simp (maxSteps:=5000000) -dsimp only [↓gp, gq, reduceCtorEq, reduceEqDiff, reduceLT, reduceLeDiff, reduceAdd, reduceMul, reduceSub, Nat.reduceBEq, Int.reduceToNat, Int.reduceLE, Int.reduceLT, Int.reduceNeg, reduceMod, sid_ne1, sid_ne2, sid_inj, sid_mod, gT, TK.isInt, TK.agg, Array.toList]
  refine askK_of (c_spec_l2Order xs hx) ?_
  simp (maxSteps:=5000000) -dsimp only [↓gp, gq, reduceCtorEq, reduceEqDiff, reduceLT, reduceLeDiff, reduceAdd, reduceMul, reduceSub, Nat.reduceBEq, Int.reduceToNat, Int.reduceLE, Int.reduceLT, Int.reduceNeg, reduceMod, sid_ne1, sid_ne2, sid_inj, sid_mod, gT, TK.isInt, TK.agg, Array.toList]
  have hfull := ordN_len (inF xs)
  have hmemf : ∀ t, t ∈ ordN (inF xs) ↔ t < 64 ∧ inF xs t = true := fun t => mem_ordN
  unfold extN
  have hext : ∀ s, s < 64 → (extB (inF xs) g s = true ↔ ∀ t, t ∈ ordN (inF xs) → (if g = true then s &&& t = s else t &&& s = t) → t = s) := fun s hs => by
    cases g with
    | true => rw [extB_iff']; simp only [if_true]; exact ⟨fun h t ht => h t ((hmemf t).1 ht).1 ((hmemf t).1 ht).2, fun h t h1 h2 => h t ((hmemf t).2 ⟨h1, h2⟩)⟩
    | false => rw [extB_iff]; simp only [Bool.false_eq_true, if_false]; exact ⟨fun h t ht => h t ((hmemf t).1 ht).1 ((hmemf t).1 ht).2, fun h t h1 h2 => h t ((hmemf t).2 ⟨h1, h2⟩)⟩
  generalize ordN (inF xs) = all at *
  have hmem : ∀ k, k < all.length → all.getD k 0 < 64 := fun k hk => ((hmemf _).1 (getD_mem 0 hk)).1
  refine loop_of (fun (za : Nat × Nat × Nat) s => match za with | (k, v, u) => s.sl 1 = bool g ∧ s.sl 5 = .own 13 u ∧ s.rw 13 = ⟨u, .sli 3 1 false (iL (ofN all))⟩ ∧ s.sl 6 = .own 14 v ∧ s.rw 14 = ⟨v, .sli 3 1 false (iL (ofN ((all.take k).filter (extB (inF xs) g))))⟩ ∧ s.sl 7 = int k ∧ (k ≤ all.length)) (fun (k, v, u) => all.length - k) ((0, 1, 1)) (by refine ⟨?_, ?_, ?_, ?_, ?_, ?_, by simp⟩ <;> (first | (simp (maxSteps:=5000000) -dsimp only [gr, reduceEqDiff, reduceLT, reduceAdd, reduceMod, Nat.reduceBEq, sid_mod, sid_ne1, sid_ne2, sid_inj]; first | done | rfl | (simp; done)) | assumption | rfl)) ?_
  intro (k, v, u) sa ⟨h1a, h5a, r13a, h6a, r14a, h7a, hIa⟩
  simp (maxSteps:=5000000) -dsimp only [↓gp, gq, reduceCtorEq, reduceEqDiff, reduceLT, reduceLeDiff, reduceAdd, reduceMul, reduceSub, Nat.reduceBEq, Int.reduceToNat, Int.reduceLE, Int.reduceLT, Int.reduceNeg, reduceMod, sid_ne1, sid_ne2, sid_inj, sid_mod, gT, TK.isInt, TK.agg, Array.toList, h1a, h5a, r13a, h6a, r14a, h7a, ofN_length]
  have hol : ((all.take k).filter (extB (inF xs) g)).length ≤ k := Nat.le_trans filt_len (by simp; omega)
  refine ⟨fun hk => ?_, fun hk => ?_⟩
  · have hs := hmem k hk
    refine loop_of (fun (zb : Nat × Bool) s => match zb with | (j, fine) => s.sl 1 = bool g ∧ s.sl 5 = .own 13 u ∧ s.rw 13 = ⟨u, .sli 3 1 false (iL (ofN all))⟩ ∧ s.sl 6 = .own 14 v ∧ s.rw 14 = ⟨v, .sli 3 1 false (iL (ofN ((all.take k).filter (extB (inF xs) g))))⟩ ∧ s.sl 7 = int k ∧ s.sl 8 = bool fine ∧ s.sl 9 = int j ∧ (j ≤ all.length ∧ (fine = true ↔ ∀ i, i < j → (if g = true then all.getD k 0 &&& all.getD i 0 = all.getD k 0 else all.getD i 0 &&& all.getD k 0 = all.getD i 0) → all.getD i 0 = all.getD k 0))) (fun (j, fine) => all.length - j) ((0, true)) (by refine ⟨?_, ?_, ?_, ?_, ?_, ?_, ?_, ?_, by simp⟩ <;> (first | (simp (maxSteps:=5000000) -dsimp only [gr, reduceEqDiff, reduceLT, reduceAdd, reduceMod, Nat.reduceBEq, sid_mod, sid_ne1, sid_ne2, sid_inj, h1a, h5a, r13a, h6a, r14a, h7a]; first | done | rfl | (simp; done)) | assumption | rfl)) ?_
    intro (j, fine) sb ⟨h1b, h5b, r13b, h6b, r14b, h7b, h8b, h9b, hIb⟩
    obtain ⟨hj, hfine⟩ := hIb
    have ek : (ofN all).getD k 0 = ((all.getD k 0 : Nat) : Int) := ofN_getD hk
    have ej : j < all.length → (ofN all).getD j 0 = ((all.getD j 0 : Nat) : Int) := fun h => ofN_getD h
    have eand : j < all.length → iand .i64 ((ofN all).getD k 0) ((ofN all).getD j 0) = ((all.getD k 0 &&& all.getD j 0 : Nat) : Int) := fun h => by
      have := hmem j h
      rw [ek, ej h, iand_nat (by omega) (by omega)]
    have hend : j = all.length → (fine = true ↔ extB (inF xs) g (all.getD k 0) = true) := fun h => by
      rw [hfine, hext _ hs]
      exact ⟨fun h2 t ht => by obtain ⟨i, hi, rfl⟩ := mem_getD 0 ht; exact h2 i (by omega), fun h2 i hi => h2 _ (getD_mem 0 (by omega))⟩
    have hend2 : j = all.length → fine = false → extB (inF xs) g (all.getD k 0) = false := fun h hf => by
      cases hb : extB (inF xs) g (all.getD k 0) with
      | false => rfl
      | true => rw [(hend h).2 hb] at hf; cases hf
    have pfT : (if g = true then all.getD k 0 &&& all.getD j 0 = all.getD k 0 else all.getD j 0 &&& all.getD k 0 = all.getD j 0) → all.getD j 0 ≠ all.getD k 0 → (false = true ↔ ∀ i, i < j + 1 → (if g = true then all.getD k 0 &&& all.getD i 0 = all.getD k 0 else all.getD i 0 &&& all.getD k 0 = all.getD i 0) → all.getD i 0 = all.getD k 0) := fun hr hne =>
      ⟨fun h => (by cases h), fun h => absurd (h j (by omega) hr) hne⟩
    have pfF : (¬ (if g = true then all.getD k 0 &&& all.getD j 0 = all.getD k 0 else all.getD j 0 &&& all.getD k 0 = all.getD j 0) ∨ all.getD j 0 = all.getD k 0) → (fine = true ↔ ∀ i, i < j + 1 → (if g = true then all.getD k 0 &&& all.getD i 0 = all.getD k 0 else all.getD i 0 &&& all.getD k 0 = all.getD i 0) → all.getD i 0 = all.getD k 0) := fun hr => by
      rw [hfine]
      constructor
      · intro h i hi
        rcases Nat.lt_succ_iff_lt_or_eq.1 hi with hi | rfl
        · exact h i hi
        · exact fun h2 => hr.elim (fun h3 => absurd h2 h3) id
      · intro h i hi; exact h i (by omega)
    cases g with
    | true =>
      simp (maxSteps:=5000000) -dsimp only [↓gp, gq, reduceCtorEq, reduceEqDiff, reduceLT, reduceLeDiff, reduceAdd, reduceMul, reduceSub, Nat.reduceBEq, Int.reduceToNat, Int.reduceLE, Int.reduceLT, Int.reduceNeg, reduceMod, sid_ne1, sid_ne2, sid_inj, sid_mod, gT, TK.isInt, TK.agg, Array.toList, h1b, h5b, r13b, h6b, r14b, h7b, h8b, h9b, ofN_length]
      refine ⟨fun h2 => ⟨hk, hk, h2, h2, fun hne => ⟨fun he => again_of ((j + 1, fine)) ⟨(by (first | (simp (maxSteps:=5000000) -dsimp only [gr, reduceEqDiff, reduceLT, reduceAdd, reduceMod, Nat.reduceBEq, sid_mod, sid_ne1, sid_ne2, sid_inj, h1b, h5b, r13b, h6b, r14b, h7b, h8b, h9b, wrap_nat h2 (by omega)]; first | done | rfl | (simp; done)) | assumption | rfl)), (by (first | (simp (maxSteps:=5000000) -dsimp only [gr, reduceEqDiff, reduceLT, reduceAdd, reduceMod, Nat.reduceBEq, sid_mod, sid_ne1, sid_ne2, sid_inj, h1b, h5b, r13b, h6b, r14b, h7b, h8b, h9b, wrap_nat h2 (by omega)]; first | done | rfl | (simp; done)) | assumption | rfl)), (by (first | (simp (maxSteps:=5000000) -dsimp only [gr, reduceEqDiff, reduceLT, reduceAdd, reduceMod, Nat.reduceBEq, sid_mod, sid_ne1, sid_ne2, sid_inj, h1b, h5b, r13b, h6b, r14b, h7b, h8b, h9b, wrap_nat h2 (by omega)]; first | done | rfl | (simp; done)) | assumption | rfl)), (by (first | (simp (maxSteps:=5000000) -dsimp only [gr, reduceEqDiff, reduceLT, reduceAdd, reduceMod, Nat.reduceBEq, sid_mod, sid_ne1, sid_ne2, sid_inj, h1b, h5b, r13b, h6b, r14b, h7b, h8b, h9b, wrap_nat h2 (by omega)]; first | done | rfl | (simp; done)) | assumption | rfl)), (by (first | (simp (maxSteps:=5000000) -dsimp only [gr, reduceEqDiff, reduceLT, reduceAdd, reduceMod, Nat.reduceBEq, sid_mod, sid_ne1, sid_ne2, sid_inj, h1b, h5b, r13b, h6b, r14b, h7b, h8b, h9b, wrap_nat h2 (by omega)]; first | done | rfl | (simp; done)) | assumption | rfl)), (by (first | (simp (maxSteps:=5000000) -dsimp only [gr, reduceEqDiff, reduceLT, reduceAdd, reduceMod, Nat.reduceBEq, sid_mod, sid_ne1, sid_ne2, sid_inj, h1b, h5b, r13b, h6b, r14b, h7b, h8b, h9b, wrap_nat h2 (by omega)]; first | done | rfl | (simp; done)) | assumption | rfl)), (by (first | (simp (maxSteps:=5000000) -dsimp only [gr, reduceEqDiff, reduceLT, reduceAdd, reduceMod, Nat.reduceBEq, sid_mod, sid_ne1, sid_ne2, sid_inj, h1b, h5b, r13b, h6b, r14b, h7b, h8b, h9b, wrap_nat h2 (by omega)]; first | done | rfl | (simp; done)) | assumption | rfl)), (by (first | (simp (maxSteps:=5000000) -dsimp only [gr, reduceEqDiff, reduceLT, reduceAdd, reduceMod, Nat.reduceBEq, sid_mod, sid_ne1, sid_ne2, sid_inj, h1b, h5b, r13b, h6b, r14b, h7b, h8b, h9b, wrap_nat h2 (by omega)]; first | done | rfl | (simp; done)) | assumption | rfl)), ⟨by omega, pfF (.inl ?_)⟩⟩ (by first | omega | (simp only; omega) | (dsimp only; omega) | (show _ < _; simp; omega)), fun he => again_of ((j + 1, false)) ⟨(by (first | (simp (maxSteps:=5000000) -dsimp only [gr, reduceEqDiff, reduceLT, reduceAdd, reduceMod, Nat.reduceBEq, sid_mod, sid_ne1, sid_ne2, sid_inj, h1b, h5b, r13b, h6b, r14b, h7b, h8b, h9b, wrap_nat h2 (by omega)]; first | done | rfl | (simp; done)) | assumption | rfl)), (by (first | (simp (maxSteps:=5000000) -dsimp only [gr, reduceEqDiff, reduceLT, reduceAdd, reduceMod, Nat.reduceBEq, sid_mod, sid_ne1, sid_ne2, sid_inj, h1b, h5b, r13b, h6b, r14b, h7b, h8b, h9b, wrap_nat h2 (by omega)]; first | done | rfl | (simp; done)) | assumption | rfl)), (by (first | (simp (maxSteps:=5000000) -dsimp only [gr, reduceEqDiff, reduceLT, reduceAdd, reduceMod, Nat.reduceBEq, sid_mod, sid_ne1, sid_ne2, sid_inj, h1b, h5b, r13b, h6b, r14b, h7b, h8b, h9b, wrap_nat h2 (by omega)]; first | done | rfl | (simp; done)) | assumption | rfl)), (by (first | (simp (maxSteps:=5000000) -dsimp only [gr, reduceEqDiff, reduceLT, reduceAdd, reduceMod, Nat.reduceBEq, sid_mod, sid_ne1, sid_ne2, sid_inj, h1b, h5b, r13b, h6b, r14b, h7b, h8b, h9b, wrap_nat h2 (by omega)]; first | done | rfl | (simp; done)) | assumption | rfl)), (by (first | (simp (maxSteps:=5000000) -dsimp only [gr, reduceEqDiff, reduceLT, reduceAdd, reduceMod, Nat.reduceBEq, sid_mod, sid_ne1, sid_ne2, sid_inj, h1b, h5b, r13b, h6b, r14b, h7b, h8b, h9b, wrap_nat h2 (by omega)]; first | done | rfl | (simp; done)) | assumption | rfl)), (by (first | (simp (maxSteps:=5000000) -dsimp only [gr, reduceEqDiff, reduceLT, reduceAdd, reduceMod, Nat.reduceBEq, sid_mod, sid_ne1, sid_ne2, sid_inj, h1b, h5b, r13b, h6b, r14b, h7b, h8b, h9b, wrap_nat h2 (by omega)]; first | done | rfl | (simp; done)) | assumption | rfl)), (by (first | (simp (maxSteps:=5000000) -dsimp only [gr, reduceEqDiff, reduceLT, reduceAdd, reduceMod, Nat.reduceBEq, sid_mod, sid_ne1, sid_ne2, sid_inj, h1b, h5b, r13b, h6b, r14b, h7b, h8b, h9b, wrap_nat h2 (by omega)]; first | done | rfl | (simp; done)) | assumption | rfl)), (by (first | (simp (maxSteps:=5000000) -dsimp only [gr, reduceEqDiff, reduceLT, reduceAdd, reduceMod, Nat.reduceBEq, sid_mod, sid_ne1, sid_ne2, sid_inj, h1b, h5b, r13b, h6b, r14b, h7b, h8b, h9b, wrap_nat h2 (by omega)]; first | done | rfl | (simp; done)) | assumption | rfl)), ⟨by omega, pfT ?_ ?_⟩⟩ (by first | omega | (simp only; omega) | (dsimp only; omega) | (show _ < _; simp; omega))⟩, fun hne => again_of ((j + 1, fine)) ⟨(by (first | (simp (maxSteps:=5000000) -dsimp only [gr, reduceEqDiff, reduceLT, reduceAdd, reduceMod, Nat.reduceBEq, sid_mod, sid_ne1, sid_ne2, sid_inj, h1b, h5b, r13b, h6b, r14b, h7b, h8b, h9b, wrap_nat h2 (by omega)]; first | done | rfl | (simp; done)) | assumption | rfl)), (by (first | (simp (maxSteps:=5000000) -dsimp only [gr, reduceEqDiff, reduceLT, reduceAdd, reduceMod, Nat.reduceBEq, sid_mod, sid_ne1, sid_ne2, sid_inj, h1b, h5b, r13b, h6b, r14b, h7b, h8b, h9b, wrap_nat h2 (by omega)]; first | done | rfl | (simp; done)) | assumption | rfl)), (by (first | (simp (maxSteps:=5000000) -dsimp only [gr, reduceEqDiff, reduceLT, reduceAdd, reduceMod, Nat.reduceBEq, sid_mod, sid_ne1, sid_ne2, sid_inj, h1b, h5b, r13b, h6b, r14b, h7b, h8b, h9b, wrap_nat h2 (by omega)]; first | done | rfl | (simp; done)) | assumption | rfl)), (by (first | (simp (maxSteps:=5000000) -dsimp only [gr, reduceEqDiff, reduceLT, reduceAdd, reduceMod, Nat.reduceBEq, sid_mod, sid_ne1, sid_ne2, sid_inj, h1b, h5b, r13b, h6b, r14b, h7b, h8b, h9b, wrap_nat h2 (by omega)]; first | done | rfl | (simp; done)) | assumption | rfl)), (by (first | (simp (maxSteps:=5000000) -dsimp only [gr, reduceEqDiff, reduceLT, reduceAdd, reduceMod, Nat.reduceBEq, sid_mod, sid_ne1, sid_ne2, sid_inj, h1b, h5b, r13b, h6b, r14b, h7b, h8b, h9b, wrap_nat h2 (by omega)]; first | done | rfl | (simp; done)) | assumption | rfl)), (by (first | (simp (maxSteps:=5000000) -dsimp only [gr, reduceEqDiff, reduceLT, reduceAdd, reduceMod, Nat.reduceBEq, sid_mod, sid_ne1, sid_ne2, sid_inj, h1b, h5b, r13b, h6b, r14b, h7b, h8b, h9b, wrap_nat h2 (by omega)]; first | done | rfl | (simp; done)) | assumption | rfl)), (by (first | (simp (maxSteps:=5000000) -dsimp only [gr, reduceEqDiff, reduceLT, reduceAdd, reduceMod, Nat.reduceBEq, sid_mod, sid_ne1, sid_ne2, sid_inj, h1b, h5b, r13b, h6b, r14b, h7b, h8b, h9b, wrap_nat h2 (by omega)]; first | done | rfl | (simp; done)) | assumption | rfl)), (by (first | (simp (maxSteps:=5000000) -dsimp only [gr, reduceEqDiff, reduceLT, reduceAdd, reduceMod, Nat.reduceBEq, sid_mod, sid_ne1, sid_ne2, sid_inj, h1b, h5b, r13b, h6b, r14b, h7b, h8b, h9b, wrap_nat h2 (by omega)]; first | done | rfl | (simp; done)) | assumption | rfl)), ⟨by omega, pfF (.inr ?_)⟩⟩ (by first | omega | (simp only; omega) | (dsimp only; omega) | (show _ < _; simp; omega))⟩, fun h2 => ?_⟩
      · rw [eand h2, ek] at he
        simp only [if_true]
        intro e; rw [e] at he; simp at he
      · rw [eand h2, ek] at he
        have := beq_iff_eq.1 he
        simp only [if_true]; omega
      · rw [ek, ej h2] at hne
        intro e; rw [e] at hne; simp at hne
      · rw [ek, ej h2] at hne
        have := bne_eq_false_iff_eq.1 hne
        omega
      · refine ⟨fun hf => ⟨hk, hk, by omega, ?_⟩, fun hf => ?_⟩
        · have hx := (hend (by omega)).1 hf
          exact again_of ((k + 1, v + 1, u)) (by refine ⟨?_, ?_, ?_, ?_, ?_, ?_, by omega⟩ <;> (first | (simp (maxSteps:=5000000) -dsimp only [gr, reduceEqDiff, reduceLT, reduceAdd, reduceMod, Nat.reduceBEq, sid_mod, sid_ne1, sid_ne2, sid_inj, h1a, h5a, r13a, h6a, r14a, h7a, h1b, h5b, r13b, h6b, r14b, h7b, h8b, h9b, wrap_nat hk (by omega), filt_yes hk hx, ofN_append, ofN_one, ek]; first | done | rfl | (simp; done)) | assumption | rfl)) (by first | omega | (simp only; omega) | (dsimp only; omega) | (show _ < _; simp; omega))
        · have hx := hend2 (by omega) hf
          exact again_of ((k + 1, v, u)) (by refine ⟨?_, ?_, ?_, ?_, ?_, ?_, by omega⟩ <;> (first | (simp (maxSteps:=5000000) -dsimp only [gr, reduceEqDiff, reduceLT, reduceAdd, reduceMod, Nat.reduceBEq, sid_mod, sid_ne1, sid_ne2, sid_inj, h1a, h5a, r13a, h6a, r14a, h7a, h1b, h5b, r13b, h6b, r14b, h7b, h8b, h9b, wrap_nat hk (by omega), filt_no hk hx]; first | done | rfl | (simp; done)) | assumption | rfl)) (by first | omega | (simp only; omega) | (dsimp only; omega) | (show _ < _; simp; omega))
    | false =>
      simp (maxSteps:=5000000) -dsimp only [↓gp, gq, reduceCtorEq, reduceEqDiff, reduceLT, reduceLeDiff, reduceAdd, reduceMul, reduceSub, Nat.reduceBEq, Int.reduceToNat, Int.reduceLE, Int.reduceLT, Int.reduceNeg, reduceMod, sid_ne1, sid_ne2, sid_inj, sid_mod, gT, TK.isInt, TK.agg, Array.toList, h1b, h5b, r13b, h6b, r14b, h7b, h8b, h9b, ofN_length]
      refine ⟨fun h2 => ⟨hk, hk, h2, h2, fun hne => ⟨fun he => again_of ((j + 1, false)) ⟨(by (first | (simp (maxSteps:=5000000) -dsimp only [gr, reduceEqDiff, reduceLT, reduceAdd, reduceMod, Nat.reduceBEq, sid_mod, sid_ne1, sid_ne2, sid_inj, h1b, h5b, r13b, h6b, r14b, h7b, h8b, h9b, wrap_nat h2 (by omega)]; first | done | rfl | (simp; done)) | assumption | rfl)), (by (first | (simp (maxSteps:=5000000) -dsimp only [gr, reduceEqDiff, reduceLT, reduceAdd, reduceMod, Nat.reduceBEq, sid_mod, sid_ne1, sid_ne2, sid_inj, h1b, h5b, r13b, h6b, r14b, h7b, h8b, h9b, wrap_nat h2 (by omega)]; first | done | rfl | (simp; done)) | assumption | rfl)), (by (first | (simp (maxSteps:=5000000) -dsimp only [gr, reduceEqDiff, reduceLT, reduceAdd, reduceMod, Nat.reduceBEq, sid_mod, sid_ne1, sid_ne2, sid_inj, h1b, h5b, r13b, h6b, r14b, h7b, h8b, h9b, wrap_nat h2 (by omega)]; first | done | rfl | (simp; done)) | assumption | rfl)), (by (first | (simp (maxSteps:=5000000) -dsimp only [gr, reduceEqDiff, reduceLT, reduceAdd, reduceMod, Nat.reduceBEq, sid_mod, sid_ne1, sid_ne2, sid_inj, h1b, h5b, r13b, h6b, r14b, h7b, h8b, h9b, wrap_nat h2 (by omega)]; first | done | rfl | (simp; done)) | assumption | rfl)), (by (first | (simp (maxSteps:=5000000) -dsimp only [gr, reduceEqDiff, reduceLT, reduceAdd, reduceMod, Nat.reduceBEq, sid_mod, sid_ne1, sid_ne2, sid_inj, h1b, h5b, r13b, h6b, r14b, h7b, h8b, h9b, wrap_nat h2 (by omega)]; first | done | rfl | (simp; done)) | assumption | rfl)), (by (first | (simp (maxSteps:=5000000) -dsimp only [gr, reduceEqDiff, reduceLT, reduceAdd, reduceMod, Nat.reduceBEq, sid_mod, sid_ne1, sid_ne2, sid_inj, h1b, h5b, r13b, h6b, r14b, h7b, h8b, h9b, wrap_nat h2 (by omega)]; first | done | rfl | (simp; done)) | assumption | rfl)), (by (first | (simp (maxSteps:=5000000) -dsimp only [gr, reduceEqDiff, reduceLT, reduceAdd, reduceMod, Nat.reduceBEq, sid_mod, sid_ne1, sid_ne2, sid_inj, h1b, h5b, r13b, h6b, r14b, h7b, h8b, h9b, wrap_nat h2 (by omega)]; first | done | rfl | (simp; done)) | assumption | rfl)), (by (first | (simp (maxSteps:=5000000) -dsimp only [gr, reduceEqDiff, reduceLT, reduceAdd, reduceMod, Nat.reduceBEq, sid_mod, sid_ne1, sid_ne2, sid_inj, h1b, h5b, r13b, h6b, r14b, h7b, h8b, h9b, wrap_nat h2 (by omega)]; first | done | rfl | (simp; done)) | assumption | rfl)), ⟨by omega, pfT ?_ ?_⟩⟩ (by first | omega | (simp only; omega) | (dsimp only; omega) | (show _ < _; simp; omega)), fun he => again_of ((j + 1, fine)) ⟨(by (first | (simp (maxSteps:=5000000) -dsimp only [gr, reduceEqDiff, reduceLT, reduceAdd, reduceMod, Nat.reduceBEq, sid_mod, sid_ne1, sid_ne2, sid_inj, h1b, h5b, r13b, h6b, r14b, h7b, h8b, h9b, wrap_nat h2 (by omega)]; first | done | rfl | (simp; done)) | assumption | rfl)), (by (first | (simp (maxSteps:=5000000) -dsimp only [gr, reduceEqDiff, reduceLT, reduceAdd, reduceMod, Nat.reduceBEq, sid_mod, sid_ne1, sid_ne2, sid_inj, h1b, h5b, r13b, h6b, r14b, h7b, h8b, h9b, wrap_nat h2 (by omega)]; first | done | rfl | (simp; done)) | assumption | rfl)), (by (first | (simp (maxSteps:=5000000) -dsimp only [gr, reduceEqDiff, reduceLT, reduceAdd, reduceMod, Nat.reduceBEq, sid_mod, sid_ne1, sid_ne2, sid_inj, h1b, h5b, r13b, h6b, r14b, h7b, h8b, h9b, wrap_nat h2 (by omega)]; first | done | rfl | (simp; done)) | assumption | rfl)), (by (first | (simp (maxSteps:=5000000) -dsimp only [gr, reduceEqDiff, reduceLT, reduceAdd, reduceMod, Nat.reduceBEq, sid_mod, sid_ne1, sid_ne2, sid_inj, h1b, h5b, r13b, h6b, r14b, h7b, h8b, h9b, wrap_nat h2 (by omega)]; first | done | rfl | (simp; done)) | assumption | rfl)), (by (first | (simp (maxSteps:=5000000) -dsimp only [gr, reduceEqDiff, reduceLT, reduceAdd, reduceMod, Nat.reduceBEq, sid_mod, sid_ne1, sid_ne2, sid_inj, h1b, h5b, r13b, h6b, r14b, h7b, h8b, h9b, wrap_nat h2 (by omega)]; first | done | rfl | (simp; done)) | assumption | rfl)), (by (first | (simp (maxSteps:=5000000) -dsimp only [gr, reduceEqDiff, reduceLT, reduceAdd, reduceMod, Nat.reduceBEq, sid_mod, sid_ne1, sid_ne2, sid_inj, h1b, h5b, r13b, h6b, r14b, h7b, h8b, h9b, wrap_nat h2 (by omega)]; first | done | rfl | (simp; done)) | assumption | rfl)), (by (first | (simp (maxSteps:=5000000) -dsimp only [gr, reduceEqDiff, reduceLT, reduceAdd, reduceMod, Nat.reduceBEq, sid_mod, sid_ne1, sid_ne2, sid_inj, h1b, h5b, r13b, h6b, r14b, h7b, h8b, h9b, wrap_nat h2 (by omega)]; first | done | rfl | (simp; done)) | assumption | rfl)), (by (first | (simp (maxSteps:=5000000) -dsimp only [gr, reduceEqDiff, reduceLT, reduceAdd, reduceMod, Nat.reduceBEq, sid_mod, sid_ne1, sid_ne2, sid_inj, h1b, h5b, r13b, h6b, r14b, h7b, h8b, h9b, wrap_nat h2 (by omega)]; first | done | rfl | (simp; done)) | assumption | rfl)), ⟨by omega, pfF (.inl ?_)⟩⟩ (by first | omega | (simp only; omega) | (dsimp only; omega) | (show _ < _; simp; omega))⟩, fun hne => again_of ((j + 1, fine)) ⟨(by (first | (simp (maxSteps:=5000000) -dsimp only [gr, reduceEqDiff, reduceLT, reduceAdd, reduceMod, Nat.reduceBEq, sid_mod, sid_ne1, sid_ne2, sid_inj, h1b, h5b, r13b, h6b, r14b, h7b, h8b, h9b, wrap_nat h2 (by omega)]; first | done | rfl | (simp; done)) | assumption | rfl)), (by (first | (simp (maxSteps:=5000000) -dsimp only [gr, reduceEqDiff, reduceLT, reduceAdd, reduceMod, Nat.reduceBEq, sid_mod, sid_ne1, sid_ne2, sid_inj, h1b, h5b, r13b, h6b, r14b, h7b, h8b, h9b, wrap_nat h2 (by omega)]; first | done | rfl | (simp; done)) | assumption | rfl)), (by (first | (simp (maxSteps:=5000000) -dsimp only [gr, reduceEqDiff, reduceLT, reduceAdd, reduceMod, Nat.reduceBEq, sid_mod, sid_ne1, sid_ne2, sid_inj, h1b, h5b, r13b, h6b, r14b, h7b, h8b, h9b, wrap_nat h2 (by omega)]; first | done | rfl | (simp; done)) | assumption | rfl)), (by (first | (simp (maxSteps:=5000000) -dsimp only [gr, reduceEqDiff, reduceLT, reduceAdd, reduceMod, Nat.reduceBEq, sid_mod, sid_ne1, sid_ne2, sid_inj, h1b, h5b, r13b, h6b, r14b, h7b, h8b, h9b, wrap_nat h2 (by omega)]; first | done | rfl | (simp; done)) | assumption | rfl)), (by (first | (simp (maxSteps:=5000000) -dsimp only [gr, reduceEqDiff, reduceLT, reduceAdd, reduceMod, Nat.reduceBEq, sid_mod, sid_ne1, sid_ne2, sid_inj, h1b, h5b, r13b, h6b, r14b, h7b, h8b, h9b, wrap_nat h2 (by omega)]; first | done | rfl | (simp; done)) | assumption | rfl)), (by (first | (simp (maxSteps:=5000000) -dsimp only [gr, reduceEqDiff, reduceLT, reduceAdd, reduceMod, Nat.reduceBEq, sid_mod, sid_ne1, sid_ne2, sid_inj, h1b, h5b, r13b, h6b, r14b, h7b, h8b, h9b, wrap_nat h2 (by omega)]; first | done | rfl | (simp; done)) | assumption | rfl)), (by (first | (simp (maxSteps:=5000000) -dsimp only [gr, reduceEqDiff, reduceLT, reduceAdd, reduceMod, Nat.reduceBEq, sid_mod, sid_ne1, sid_ne2, sid_inj, h1b, h5b, r13b, h6b, r14b, h7b, h8b, h9b, wrap_nat h2 (by omega)]; first | done | rfl | (simp; done)) | assumption | rfl)), (by (first | (simp (maxSteps:=5000000) -dsimp only [gr, reduceEqDiff, reduceLT, reduceAdd, reduceMod, Nat.reduceBEq, sid_mod, sid_ne1, sid_ne2, sid_inj, h1b, h5b, r13b, h6b, r14b, h7b, h8b, h9b, wrap_nat h2 (by omega)]; first | done | rfl | (simp; done)) | assumption | rfl)), ⟨by omega, pfF (.inr ?_)⟩⟩ (by first | omega | (simp only; omega) | (dsimp only; omega) | (show _ < _; simp; omega))⟩, fun h2 => ?_⟩
      · rw [eand h2, ej h2] at he
        have := beq_iff_eq.1 he
        simp only [Bool.false_eq_true, if_false]; rw [Nat.and_comm]; omega
      · rw [ek, ej h2] at hne
        intro e; rw [e] at hne; simp at hne
      · rw [eand h2, ej h2] at he
        simp only [Bool.false_eq_true, if_false]
        intro e; rw [Nat.and_comm] at e; rw [e] at he; simp at he
      · rw [ek, ej h2] at hne
        have := bne_eq_false_iff_eq.1 hne
        omega
      · refine ⟨fun hf => ⟨hk, hk, by omega, ?_⟩, fun hf => ?_⟩
        · have hx := (hend (by omega)).1 hf
          exact again_of ((k + 1, v + 1, u)) (by refine ⟨?_, ?_, ?_, ?_, ?_, ?_, by omega⟩ <;> (first | (simp (maxSteps:=5000000) -dsimp only [gr, reduceEqDiff, reduceLT, reduceAdd, reduceMod, Nat.reduceBEq, sid_mod, sid_ne1, sid_ne2, sid_inj, h1a, h5a, r13a, h6a, r14a, h7a, h1b, h5b, r13b, h6b, r14b, h7b, h8b, h9b, wrap_nat hk (by omega), filt_yes hk hx, ofN_append, ofN_one, ek]; first | done | rfl | (simp; done)) | assumption | rfl)) (by first | omega | (simp only; omega) | (dsimp only; omega) | (show _ < _; simp; omega))
        · have hx := hend2 (by omega) hf
          exact again_of ((k + 1, v, u)) (by refine ⟨?_, ?_, ?_, ?_, ?_, ?_, by omega⟩ <;> (first | (simp (maxSteps:=5000000) -dsimp only [gr, reduceEqDiff, reduceLT, reduceAdd, reduceMod, Nat.reduceBEq, sid_mod, sid_ne1, sid_ne2, sid_inj, h1a, h5a, r13a, h6a, r14a, h7a, h1b, h5b, r13b, h6b, r14b, h7b, h8b, h9b, wrap_nat hk (by omega), filt_no hk hx]; first | done | rfl | (simp; done)) | assumption | rfl)) (by first | omega | (simp only; omega) | (dsimp only; omega) | (show _ < _; simp; omega))
  · have : k = all.length := by omega
    subst this
    rw [List.take_length]
theorem c_slices_Clone (xs : List Int) (hx : xs.length ≤ 1048576) : AC Tryz.prog 129 [ints xs] (.fr 3 1 (iL xs)) := by
  refine AC.go (rs := [.tmp 2]) T_ok mixed Tryz.func129 rfl rfl rfl (by kernel_rfl) fun hl => ?_
  simp (maxSteps:=5000000) -dsimp only [↓gp, gq, reduceCtorEq, reduceEqDiff, reduceLT, reduceLeDiff, reduceAdd, reduceMul, reduceSub, Nat.reduceBEq, Int.reduceToNat, Int.reduceLE, Int.reduceLT, Int.reduceNeg, reduceMod, sid_ne1, sid_ne2, sid_inj, sid_mod, gT, TK.isInt, TK.agg, Array.toList]
  exact ⟨by omega, fun h => h.symm⟩
end Go.Proofs.YtpnknaaehcljoaaGreat
