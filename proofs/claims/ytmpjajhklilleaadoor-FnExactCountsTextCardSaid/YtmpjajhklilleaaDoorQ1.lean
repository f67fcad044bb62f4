/- DERIVED by an AI agent. -/
import Derived.Test.YtmpjajhklilleaaDoorB1
import Derived.Test.YtmpjajhklilleaaDoorP1
import Derived.Test.YtmpjajhklilleaaDoorA16
namespace Go.Proofs.YtmpjajhklilleaaDoor
open Go.Abs
set_option linter.unusedSimpArgs false
set_option linter.unusedVariables false

def icmp (a b : Int) : Int := if a < b then -1 else if b < a then 1 else 0
theorem c_spec_l1In (a b c : Int) : AC Tryd.prog 60 [int a, int b, int c] (.im (bool (decide (b ≤ a) && decide (a ≤ c)))) := by
  refine AC.go (rs := [.tmp 6]) T_ok mixed Tryd.func60 rfl rfl rfl (by kernel_rfl) fun _ => ?_
  simp (maxSteps := 5000000) -dsimp only [↓gp, gq, reduceCtorEq, Nat.reduceEqDiff, Nat.reduceLT, Nat.reduceLeDiff, Nat.reduceAdd, Nat.reduceMul, Nat.reduceSub, Nat.reduceBEq, Int.reduceToNat, Int.reduceLE, Int.reduceLT, Int.reduceNeg, Nat.reduceMod, sid_ne1, sid_ne2, sid_inj, sid_mod, gT, TK.isInt, TK.agg, Array.toList]
  exact ⟨fun h => by simp [h], fun h => by simp [h]⟩
def div3 (xs ys : List Int) : Bool := decide (xs.getD 0 0 ≤ ys.getD 0 0) && decide (xs.getD 1 0 ≤ ys.getD 1 0) && decide (xs.getD 2 0 ≤ ys.getD 2 0)
def isPow (xs : List Int) : Bool := xs.length == 3 && xs.all fun n => decide (0 ≤ n) && decide (n ≤ 2)
theorem isPow_len {xs : List Int} (h : xs.length = 3) : isPow xs = ((decide (0 ≤ xs.getD 0 0) && decide (xs.getD 0 0 ≤ 2)) && (decide (0 ≤ xs.getD 1 0) && decide (xs.getD 1 0 ≤ 2)) && (decide (0 ≤ xs.getD 2 0) && decide (xs.getD 2 0 ≤ 2))) := by
  match xs, h with
  | [a, b, c], _ => simp [isPow, Bool.and_assoc]
def divL (xs ys : List Int) : Bool := (List.range xs.length).all fun i => decide (xs.getD i 0 ≤ ys.getD i 0)
theorem c_laws_eqIntS (xs ys : List Int) : AC Tryd.prog 9 [ints xs, ints ys] (.im (bool (decide (xs = ys)))) := by
  refine AC.go (rs := [.tmp 4]) T_ok mixed Tryd.func9 rfl rfl rfl (by kernel_rfl) fun hl => ?_
  simp only [lens_cons, lens2_iL, lens_nil, and_true] at hl
  simp (maxSteps := 5000000) -dsimp only [↓gp, gq, reduceCtorEq, Nat.reduceEqDiff, Nat.reduceLT, Nat.reduceLeDiff, Nat.reduceAdd, Nat.reduceMul, Nat.reduceSub, Nat.reduceBEq, Int.reduceToNat, Int.reduceLE, Int.reduceLT, Int.reduceNeg, Nat.reduceMod, sid_ne1, sid_ne2, sid_inj, sid_mod, gT, TK.isInt, TK.agg, Array.toList]
  refine ⟨fun h => ?_, fun h => ?_⟩
  · intro e
    simp [e] at h
  · have hn : xs.length = ys.length := by simp at h; omega
    refine loop_of (fun (i : Nat) s => s.sl 0 = ints xs ∧ s.sl 1 = ints ys ∧ s.sl 5 = int i ∧ i ≤ xs.length ∧ xs.take i = ys.take i) (fun i => xs.length - i) 0 ⟨by simp (maxSteps := 5000000) -dsimp only [gr, Nat.reduceEqDiff, Nat.reduceLT, Nat.reduceAdd, Nat.reduceMod, Nat.reduceBEq, sid_mod, sid_ne1, sid_ne2, sid_inj], by simp (maxSteps := 5000000) -dsimp only [gr, Nat.reduceEqDiff, Nat.reduceLT, Nat.reduceAdd, Nat.reduceMod, Nat.reduceBEq, sid_mod, sid_ne1, sid_ne2, sid_inj], by simp (maxSteps := 5000000) -dsimp only [gr, Nat.reduceEqDiff, Nat.reduceLT, Nat.reduceAdd, Nat.reduceMod, Nat.reduceBEq, sid_mod, sid_ne1, sid_ne2, sid_inj]; rfl, by simp, by simp⟩ ?_
    intro i s1 ⟨h0, h1, h5, hi, hall⟩
    simp (maxSteps := 5000000) -dsimp only [↓gp, gq, reduceCtorEq, Nat.reduceEqDiff, Nat.reduceLT, Nat.reduceLeDiff, Nat.reduceAdd, Nat.reduceMul, Nat.reduceSub, Nat.reduceBEq, Int.reduceToNat, Int.reduceLE, Int.reduceLT, Int.reduceNeg, Nat.reduceMod, sid_ne1, sid_ne2, sid_inj, sid_mod, gT, TK.isInt, TK.agg, Array.toList, h0, h1, h5]
    refine ⟨fun h => ⟨by kernel_rfl, h, h, by omega, by omega, fun ha => ?_, fun ha => ?_⟩, fun h => ?_⟩
    · intro e
      simp [e] at ha
    · refine again_of (i + 1) ⟨by simp (maxSteps := 5000000) -dsimp only [gr, Nat.reduceEqDiff, Nat.reduceLT, Nat.reduceAdd, Nat.reduceMod, Nat.reduceBEq, sid_mod, sid_ne1, sid_ne2, sid_inj, h0], by simp (maxSteps := 5000000) -dsimp only [gr, Nat.reduceEqDiff, Nat.reduceLT, Nat.reduceAdd, Nat.reduceMod, Nat.reduceBEq, sid_mod, sid_ne1, sid_ne2, sid_inj, h1], by simp (maxSteps := 5000000) -dsimp only [gr, Nat.reduceEqDiff, Nat.reduceLT, Nat.reduceAdd, Nat.reduceMod, Nat.reduceBEq, sid_mod, sid_ne1, sid_ne2, sid_inj]; rw [wrap_nat h hl.1], h, ?_⟩ (by omega)
      rw [take_snoc 0 h, take_snoc 0 (show i < ys.length by omega), hall]
      simp at ha
      simpa using ha
    · rw [List.take_of_length_le (by omega), List.take_of_length_le (by omega)] at hall
      exact hall
theorem c_laws_toIntS (xs : List Int) (hx : xs.length ≤ 1048576) : AC Tryd.prog 7 [ints xs] (.fr 3 1 (iL xs)) := by
  refine AC.go (rs := [.tmp 2]) T_ok mixed Tryd.func7 rfl rfl rfl (by kernel_rfl) fun hl => ?_
  simp (maxSteps := 5000000) -dsimp only [↓gp, gq, reduceCtorEq, Nat.reduceEqDiff, Nat.reduceLT, Nat.reduceLeDiff, Nat.reduceAdd, Nat.reduceMul, Nat.reduceSub, Nat.reduceBEq, Int.reduceToNat, Int.reduceLE, Int.reduceLT, Int.reduceNeg, Nat.reduceMod, sid_ne1, sid_ne2, sid_inj, sid_mod, gT, TK.isInt, TK.agg, Array.toList]
  refine ⟨by omega, by omega, ?_⟩
  refine loop_of (fun (i : Nat) s => ∃ v, s.sl 0 = ints xs ∧ s.sl 3 = .own 7 v ∧ s.rw 7 = ⟨v, .sli 3 1 false (iL (xs.take i ++ List.replicate (xs.length - i) 0))⟩ ∧ s.sl 4 = int i ∧ i ≤ xs.length) (fun i => xs.length - i) 0 ⟨1, by simp (maxSteps := 5000000) -dsimp only [gr, Nat.reduceEqDiff, Nat.reduceLT, Nat.reduceAdd, Nat.reduceMod, Nat.reduceBEq, sid_mod, sid_ne1, sid_ne2, sid_inj], by simp (maxSteps := 5000000) -dsimp only [gr, Nat.reduceEqDiff, Nat.reduceLT, Nat.reduceAdd, Nat.reduceMod, Nat.reduceBEq, sid_mod, sid_ne1, sid_ne2, sid_inj], by simp (maxSteps := 5000000) -dsimp only [gr, Nat.reduceEqDiff, Nat.reduceLT, Nat.reduceAdd, Nat.reduceMod, Nat.reduceBEq, sid_mod, sid_ne1, sid_ne2, sid_inj]; simp, by simp (maxSteps := 5000000) -dsimp only [gr, Nat.reduceEqDiff, Nat.reduceLT, Nat.reduceAdd, Nat.reduceMod, Nat.reduceBEq, sid_mod, sid_ne1, sid_ne2, sid_inj]; rfl, by simp⟩ ?_
  intro i s1 ⟨v, h0, h3, h7, h4, hi⟩
  simp (maxSteps := 5000000) -dsimp only [↓gp, gq, reduceCtorEq, Nat.reduceEqDiff, Nat.reduceLT, Nat.reduceLeDiff, Nat.reduceAdd, Nat.reduceMul, Nat.reduceSub, Nat.reduceBEq, Int.reduceToNat, Int.reduceLE, Int.reduceLT, Int.reduceNeg, Nat.reduceMod, sid_ne1, sid_ne2, sid_inj, sid_mod, gT, TK.isInt, TK.agg, Array.toList, h0, h3, h7, h4]
  have hf := fill_length (xs := xs) (z := (0 : Int)) hi
  refine ⟨fun h => ⟨h, h, by omega, by omega, ?_⟩, fun h => ?_⟩
  · refine again_of (i + 1) ⟨v, by simp (maxSteps := 5000000) -dsimp only [gr, Nat.reduceEqDiff, Nat.reduceLT, Nat.reduceAdd, Nat.reduceMod, Nat.reduceBEq, sid_mod, sid_ne1, sid_ne2, sid_inj, h0], by simp (maxSteps := 5000000) -dsimp only [gr, Nat.reduceEqDiff, Nat.reduceLT, Nat.reduceAdd, Nat.reduceMod, Nat.reduceBEq, sid_mod, sid_ne1, sid_ne2, sid_inj, h3], by simp (maxSteps := 5000000) -dsimp only [gr, Nat.reduceEqDiff, Nat.reduceLT, Nat.reduceAdd, Nat.reduceMod, Nat.reduceBEq, sid_mod, sid_ne1, sid_ne2, sid_inj]; rw [set_fill 0 0 h], by simp (maxSteps := 5000000) -dsimp only [gr, Nat.reduceEqDiff, Nat.reduceLT, Nat.reduceAdd, Nat.reduceMod, Nat.reduceBEq, sid_mod, sid_ne1, sid_ne2, sid_inj]; rw [wrap_nat h (by omega)], h⟩ (by omega)
  · rw [List.take_of_length_le (by omega), show xs.length - i = 0 by omega]; simp
theorem c_laws_szIntS (xs : List Int) (n : Int) (h0 : 0 ≤ n) (h1 : n ≤ 1048576) : AC Tryd.prog 21 [ints xs, int n] (.im (int (if n - xs.length < 0 then -1 else n - xs.length))) := by
  refine AC.go (rs := [.tmp 4]) T_ok mixed Tryd.func21 rfl rfl rfl (by kernel_rfl) fun hl => ?_
  simp only [lens_cons, lens2_iL, lens_nil, and_true] at hl
  have hw : IntKind.i64.wrap (n - xs.length) = n - xs.length := wrap_id (by omega) (by have := hl.1; omega)
  simp (maxSteps := 5000000) -dsimp only [↓gp, gq, reduceCtorEq, Nat.reduceEqDiff, Nat.reduceLT, Nat.reduceLeDiff, Nat.reduceAdd, Nat.reduceMul, Nat.reduceSub, Nat.reduceBEq, Int.reduceToNat, Int.reduceLE, Int.reduceLT, Int.reduceNeg, Nat.reduceMod, sid_ne1, sid_ne2, sid_inj, sid_mod, gT, TK.isInt, TK.agg, Array.toList, hw]
  exact ⟨fun h => by simp [h], fun h => by simp [h]⟩
def szI (n : Int) (k : Nat) : Int := if n - k < 0 then -1 else n - k
def szL : List (List Int) → Int → Int
  | [], n => n
  | r :: rs, n => if szI n r.length < 0 then -1 else szL rs (szI n r.length)
def szSS (xss : List (List Int)) (n : Int) : Int := if szI n xss.length < 0 then -1 else szL xss (szI n xss.length)
theorem szL_neg : ∀ (xs : List (List Int)) (n : Int), 0 ≤ n → szL xs n = -1 ∨ 0 ≤ szL xs n := by
  intro xs
  induction xs with
  | nil => intro n h; exact .inr h
  | cons r rs ih =>
    intro n h
    simp only [szL]
    split
    · exact .inl rfl
    · exact ih _ (by omega)
def lessL : List Int → List Int → Bool
  | [], _ => false
  | _ :: _, [] => false
  | a :: xs, b :: ys => if a = b then lessL xs ys else decide (a < b)
def cmpL : List Int → List Int → Int
  | [], [] => 0
  | [], _ :: _ => -1
  | _ :: _, [] => 1
  | a :: xs, b :: ys => if icmp a b = 0 then cmpL xs ys else icmp a b
end Go.Proofs.YtmpjajhklilleaaDoor

namespace Go.Proofs.YtmpjajhklilleaaDoor
open Go.Abs
set_option linter.unusedSimpArgs false
set_option linter.unusedVariables false
theorem c_spec_l2Size (n : Nat) (h : n < 9223372036854775808) : AC Tryd.prog 47 [int n] (.im (int (popN n : Nat))) := by
  refine AC.go (rs := [.tmp 2]) T_ok mixed Tryd.func47 rfl rfl rfl (by kernel_rfl) fun hl => ?_
  simp (maxSteps := 5000000) -dsimp only [↓gp, gq, reduceCtorEq, Nat.reduceEqDiff, Nat.reduceLT, Nat.reduceLeDiff, Nat.reduceAdd, Nat.reduceMul, Nat.reduceSub, Nat.reduceBEq, Int.reduceToNat, Int.reduceLE, Int.reduceLT, Int.reduceNeg, Nat.reduceMod, sid_ne1, sid_ne2, sid_inj, sid_mod, gT, TK.isInt, TK.agg, Array.toList]
  refine loop_of (fun (x : Nat × Nat) s => s.sl 0 = int x.1 ∧ s.sl 3 = int x.2 ∧ x.1 ≤ n ∧ x.2 + popN x.1 = popN n) (fun x => x.1) (n, 0) ⟨by simp (maxSteps := 5000000) -dsimp only [gr, Nat.reduceEqDiff, Nat.reduceLT, Nat.reduceAdd, Nat.reduceMod, Nat.reduceBEq, sid_mod, sid_ne1, sid_ne2, sid_inj], by simp (maxSteps := 5000000) -dsimp only [gr, Nat.reduceEqDiff, Nat.reduceLT, Nat.reduceAdd, Nat.reduceMod, Nat.reduceBEq, sid_mod, sid_ne1, sid_ne2, sid_inj]; rfl, by simp, by simp⟩ ?_
  intro ⟨m, a⟩ s1 ⟨h0, h3, hm, hp⟩
  simp only at h0 h3 hm hp
  have hpl := popN_le n
  simp (maxSteps := 5000000) -dsimp only [↓gp, gq, reduceCtorEq, Nat.reduceEqDiff, Nat.reduceLT, Nat.reduceLeDiff, Nat.reduceAdd, Nat.reduceMul, Nat.reduceSub, Nat.reduceBEq, Int.reduceToNat, Int.reduceLE, Int.reduceLT, Int.reduceNeg, Nat.reduceMod, sid_ne1, sid_ne2, sid_inj, sid_mod, gT, TK.isInt, TK.agg, Array.toList, h0, h3, iand_one (show m < 9223372036854775808 by omega), ishr_one]
  refine ⟨fun h1 => ?_, fun h1 => ?_⟩
  · have hm0 : m ≠ 0 := by omega
    rw [popN_pos hm0] at hp
    refine again_of (m / 2, a + m % 2) ⟨by simp (maxSteps := 5000000) -dsimp only [gr, Nat.reduceEqDiff, Nat.reduceLT, Nat.reduceAdd, Nat.reduceMod, Nat.reduceBEq, sid_mod, sid_ne1, sid_ne2, sid_inj], ?_, by simp only; omega, by simp only; omega⟩ (by simp only; omega)
    simp (maxSteps := 5000000) -dsimp only [gr, Nat.reduceEqDiff, Nat.reduceLT, Nat.reduceAdd, Nat.reduceMod, Nat.reduceBEq, sid_mod, sid_ne1, sid_ne2, sid_inj]
    rw [wrap_id (by omega) (by omega)]
    rfl
  · have : m = 0 := by omega
    subst this
    rw [popN_zero] at hp
    omega
theorem c_spec_l2Sizei {s : Int} (h0 : 0 ≤ s) (h : s < 9223372036854775808) : AC Tryd.prog 47 [int s] (.im (int (popN s.toNat : Nat))) := by
  obtain ⟨m, rfl⟩ := Int.eq_ofNat_of_zero_le h0
  exact c_spec_l2Size m (by omega)
theorem c_bits_OnesCount64 (n : Nat) (h : n < 64) : AC Tryd.prog 90 [u64 n] (.im (int (popN n : Nat))) := by
  refine AC.go (rs := [.tmp 2]) T_ok mixed Tryd.func90 rfl rfl rfl (by kernel_rfl) fun hl => ?_
  simp (maxSteps := 5000000) -dsimp only [↓gp, gq, reduceCtorEq, Nat.reduceEqDiff, Nat.reduceLT, Nat.reduceLeDiff, Nat.reduceAdd, Nat.reduceMul, Nat.reduceSub, Nat.reduceBEq, Int.reduceToNat, Int.reduceLE, Int.reduceLT, Int.reduceNeg, Nat.reduceMod, sid_ne1, sid_ne2, sid_inj, sid_mod, gT, TK.isInt, TK.agg, Array.toList]
  rw [popN_6 h]
  clear hl
  obtain ⟨m, rfl⟩ : ∃ m : Fin 64, m.val = n := ⟨⟨n, h⟩, rfl⟩
  clear h
  revert m
  decide +kernel
theorem c_bits_OnesCount (n : Nat) (h : n < 64) : AC Tryd.prog 74 [u64 n] (.im (int (popN n : Nat))) := by
  refine AC.go (rs := [.tmp 2]) T_ok mixed Tryd.func74 rfl rfl rfl (by kernel_rfl) fun hl => ?_
  simp (maxSteps := 5000000) -dsimp only [↓gp, gq, reduceCtorEq, Nat.reduceEqDiff, Nat.reduceLT, Nat.reduceLeDiff, Nat.reduceAdd, Nat.reduceMul, Nat.reduceSub, Nat.reduceBEq, Int.reduceToNat, Int.reduceLE, Int.reduceLT, Int.reduceNeg, Nat.reduceMod, sid_ne1, sid_ne2, sid_inj, sid_mod, gT, TK.isInt, TK.agg, Array.toList]
  refine askK_of (c_bits_OnesCount64 n h) ?_
  simp (maxSteps := 5000000) -dsimp only [↓gp, gq, reduceCtorEq, Nat.reduceEqDiff, Nat.reduceLT, Nat.reduceLeDiff, Nat.reduceAdd, Nat.reduceMul, Nat.reduceSub, Nat.reduceBEq, Int.reduceToNat, Int.reduceLE, Int.reduceLT, Int.reduceNeg, Nat.reduceMod, sid_ne1, sid_ne2, sid_inj, sid_mod, gT, TK.isInt, TK.agg, Array.toList]
theorem c_impl_IsSet (n s : Int) : AC Tryd.prog 73 [int n, int s] (.im (bool (inSet n s))) := by
  refine AC.go (rs := [.tmp 4]) T_ok mixed Tryd.func73 rfl rfl rfl (by kernel_rfl) fun hl => ?_
  simp (maxSteps := 5000000) -dsimp only [↓gp, gq, reduceCtorEq, Nat.reduceEqDiff, Nat.reduceLT, Nat.reduceLeDiff, Nat.reduceAdd, Nat.reduceMul, Nat.reduceSub, Nat.reduceBEq, Int.reduceToNat, Int.reduceLE, Int.reduceLT, Int.reduceNeg, Nat.reduceMod, sid_ne1, sid_ne2, sid_inj, sid_mod, gT, TK.isInt, TK.agg, Array.toList, inSet]
  refine ⟨fun h0 => ⟨fun h6 => ⟨fun hs => ?_, fun hs => by omega⟩, fun h6 => by omega⟩, fun h0 => by omega⟩
  obtain ⟨m, rfl⟩ := Int.eq_ofNat_of_zero_le h0
  rw [uwrap_nat (by omega), ishl_small (by omega), pow_nat]
  exact ⟨by omega, by simp only [h0, h6, hs, true_and]⟩
theorem c_spec_IsSet (n s : Int) : AC Tryd.prog 58 [int n, int s] (.im (bool (inSet n s))) := by
  refine AC.go (rs := [.tmp 4]) T_ok mixed Tryd.func58 rfl rfl rfl (by kernel_rfl) fun hl => ?_
  simp (maxSteps := 5000000) -dsimp only [↓gp, gq, reduceCtorEq, Nat.reduceEqDiff, Nat.reduceLT, Nat.reduceLeDiff, Nat.reduceAdd, Nat.reduceMul, Nat.reduceSub, Nat.reduceBEq, Int.reduceToNat, Int.reduceLE, Int.reduceLT, Int.reduceNeg, Nat.reduceMod, sid_ne1, sid_ne2, sid_inj, sid_mod, gT, TK.isInt, TK.agg, Array.toList]
  refine askK_of (c_spec_l1In _ _ _) ?_
  simp (maxSteps := 5000000) -dsimp only [↓gp, gq, reduceCtorEq, Nat.reduceEqDiff, Nat.reduceLT, Nat.reduceLeDiff, Nat.reduceAdd, Nat.reduceMul, Nat.reduceSub, Nat.reduceBEq, Int.reduceToNat, Int.reduceLE, Int.reduceLT, Int.reduceNeg, Nat.reduceMod, sid_ne1, sid_ne2, sid_inj, sid_mod, gT, TK.isInt, TK.agg, Array.toList]
  refine ⟨fun h => ?_, fun h => ?_⟩
  · simp only [Bool.and_eq_true, decide_eq_true_eq] at h
    obtain ⟨h0, h6⟩ := h
    obtain ⟨m, rfl⟩ := Int.eq_ofNat_of_zero_le h0
    have hp := two_pow_le (m := m) (by omega)
    have e : inSet (m : Int) s = decide (0 ≤ s ∧ s < ((2 ^ m : Nat) : Int)) := by
      rw [inSet, pow_nat]
      simp only [h0, h6, true_and]
    rw [e, uwrap_nat (by omega), ishl_small (by omega)]
    generalize (2 ^ m : Nat) = q at hp
    rw [wrap_id (by omega) (by omega)]
    refine ⟨by omega, askK_of (c_spec_l1In _ _ _) ?_⟩
    simp (maxSteps := 5000000) -dsimp only [↓gp, gq, reduceCtorEq, Nat.reduceEqDiff, Nat.reduceLT, Nat.reduceLeDiff, Nat.reduceAdd, Nat.reduceMul, Nat.reduceSub, Nat.reduceBEq, Int.reduceToNat, Int.reduceLE, Int.reduceLT, Int.reduceNeg, Nat.reduceMod, sid_ne1, sid_ne2, sid_inj, sid_mod, gT, TK.isInt, TK.agg, Array.toList]
    rw [← Bool.decide_and]
    exact decide_eq_decide.2 (by omega)
  · refine decide_eq_false fun hh => ?_
    simp [hh.1, hh.2.1] at h
def szOf (s : Int) : Int := if 0 ≤ s ∧ s < 64 then (popN s.toNat : Nat) else -1
theorem inSet_6 (s : Int) : inSet 6 s = decide (0 ≤ s ∧ s < 64) := by
  simp [inSet]
theorem c_impl_SizeOf (s : Int) : AC Tryd.prog 52 [int s] (.im (int (szOf s))) := by
  refine AC.go (rs := [.tmp 2]) T_ok mixed Tryd.func52 rfl rfl rfl (by kernel_rfl) fun hl => ?_
  simp (maxSteps := 5000000) -dsimp only [↓gp, gq, reduceCtorEq, Nat.reduceEqDiff, Nat.reduceLT, Nat.reduceLeDiff, Nat.reduceAdd, Nat.reduceMul, Nat.reduceSub, Nat.reduceBEq, Int.reduceToNat, Int.reduceLE, Int.reduceLT, Int.reduceNeg, Nat.reduceMod, sid_ne1, sid_ne2, sid_inj, sid_mod, gT, TK.isInt, TK.agg, Array.toList]
  refine askK_of (c_impl_IsSet _ _) ?_
  simp (maxSteps := 5000000) -dsimp only [↓gp, gq, reduceCtorEq, Nat.reduceEqDiff, Nat.reduceLT, Nat.reduceLeDiff, Nat.reduceAdd, Nat.reduceMul, Nat.reduceSub, Nat.reduceBEq, Int.reduceToNat, Int.reduceLE, Int.reduceLT, Int.reduceNeg, Nat.reduceMod, sid_ne1, sid_ne2, sid_inj, sid_mod, gT, TK.isInt, TK.agg, Array.toList, inSet_6]
  refine ⟨fun h => ?_, fun h => ?_⟩
  · have h : ¬ (0 ≤ s ∧ s < 64) := by simp at h; omega
    rw [szOf, if_neg h]
  · have h : 0 ≤ s ∧ s < 64 := by simpa using h
    obtain ⟨m, rfl⟩ := Int.eq_ofNat_of_zero_le h.1
    rw [uwrap_nat (by omega)]
    refine askK_of (c_bits_OnesCount m (by omega)) ?_
    simp (maxSteps := 5000000) -dsimp only [↓gp, gq, reduceCtorEq, Nat.reduceEqDiff, Nat.reduceLT, Nat.reduceLeDiff, Nat.reduceAdd, Nat.reduceMul, Nat.reduceSub, Nat.reduceBEq, Int.reduceToNat, Int.reduceLE, Int.reduceLT, Int.reduceNeg, Nat.reduceMod, sid_ne1, sid_ne2, sid_inj, sid_mod, gT, TK.isInt, TK.agg, Array.toList]
    rw [szOf, if_pos h]; rfl
def befS (a b : Int) : Bool := decide (0 ≤ a ∧ a < 64) && (decide (0 ≤ b ∧ b < 64) && (if szOf a = szOf b then decide (a < b) else decide (szOf a < szOf b)))
theorem c_impl_BeforeSet (a b : Int) : AC Tryd.prog 84 [int a, int b] (.im (bool (befS a b))) := by
  refine AC.go (rs := [.tmp 4]) T_ok mixed Tryd.func84 rfl rfl rfl (by kernel_rfl) fun hl => ?_
  simp (maxSteps := 5000000) -dsimp only [↓gp, gq, reduceCtorEq, Nat.reduceEqDiff, Nat.reduceLT, Nat.reduceLeDiff, Nat.reduceAdd, Nat.reduceMul, Nat.reduceSub, Nat.reduceBEq, Int.reduceToNat, Int.reduceLE, Int.reduceLT, Int.reduceNeg, Nat.reduceMod, sid_ne1, sid_ne2, sid_inj, sid_mod, gT, TK.isInt, TK.agg, Array.toList]
  refine askK_of (c_impl_IsSet _ _) ?_
  simp (maxSteps := 5000000) -dsimp only [↓gp, gq, reduceCtorEq, Nat.reduceEqDiff, Nat.reduceLT, Nat.reduceLeDiff, Nat.reduceAdd, Nat.reduceMul, Nat.reduceSub, Nat.reduceBEq, Int.reduceToNat, Int.reduceLE, Int.reduceLT, Int.reduceNeg, Nat.reduceMod, sid_ne1, sid_ne2, sid_inj, sid_mod, gT, TK.isInt, TK.agg, Array.toList, inSet_6]
  unfold befS
  refine ⟨fun h => askK_of (c_impl_IsSet _ _) ?_, fun h => ?_⟩
  · have ha : decide (0 ≤ a ∧ a < 64) = true := by simpa using h
    simp (maxSteps := 5000000) -dsimp only [↓gp, gq, reduceCtorEq, Nat.reduceEqDiff, Nat.reduceLT, Nat.reduceLeDiff, Nat.reduceAdd, Nat.reduceMul, Nat.reduceSub, Nat.reduceBEq, Int.reduceToNat, Int.reduceLE, Int.reduceLT, Int.reduceNeg, Nat.reduceMod, sid_ne1, sid_ne2, sid_inj, sid_mod, gT, TK.isInt, TK.agg, Array.toList, inSet_6]
    rw [ha]
    refine ⟨fun hb => ?_, fun hb => ?_⟩
    · have hb : decide (0 ≤ b ∧ b < 64) = false := by rwa [Bool.not_eq_true'] at hb
      rw [hb]; rfl
    · have hb : decide (0 ≤ b ∧ b < 64) = true := by simpa using hb
      rw [hb]
      refine askK_of (c_impl_SizeOf a) ?_
      simp (maxSteps := 5000000) -dsimp only [↓gp, gq, reduceCtorEq, Nat.reduceEqDiff, Nat.reduceLT, Nat.reduceLeDiff, Nat.reduceAdd, Nat.reduceMul, Nat.reduceSub, Nat.reduceBEq, Int.reduceToNat, Int.reduceLE, Int.reduceLT, Int.reduceNeg, Nat.reduceMod, sid_ne1, sid_ne2, sid_inj, sid_mod, gT, TK.isInt, TK.agg, Array.toList]
      refine askK_of (c_impl_SizeOf b) ?_
      simp (maxSteps := 5000000) -dsimp only [↓gp, gq, reduceCtorEq, Nat.reduceEqDiff, Nat.reduceLT, Nat.reduceLeDiff, Nat.reduceAdd, Nat.reduceMul, Nat.reduceSub, Nat.reduceBEq, Int.reduceToNat, Int.reduceLE, Int.reduceLT, Int.reduceNeg, Nat.reduceMod, sid_ne1, sid_ne2, sid_inj, sid_mod, gT, TK.isInt, TK.agg, Array.toList]
      refine ⟨fun hs => askK_of (c_impl_SizeOf a) ?_, fun hs => ?_⟩
      · simp (maxSteps := 5000000) -dsimp only [↓gp, gq, reduceCtorEq, Nat.reduceEqDiff, Nat.reduceLT, Nat.reduceLeDiff, Nat.reduceAdd, Nat.reduceMul, Nat.reduceSub, Nat.reduceBEq, Int.reduceToNat, Int.reduceLE, Int.reduceLT, Int.reduceNeg, Nat.reduceMod, sid_ne1, sid_ne2, sid_inj, sid_mod, gT, TK.isInt, TK.agg, Array.toList]
        refine askK_of (c_impl_SizeOf b) ?_
        simp (maxSteps := 5000000) -dsimp only [↓gp, gq, reduceCtorEq, Nat.reduceEqDiff, Nat.reduceLT, Nat.reduceLeDiff, Nat.reduceAdd, Nat.reduceMul, Nat.reduceSub, Nat.reduceBEq, Int.reduceToNat, Int.reduceLE, Int.reduceLT, Int.reduceNeg, Nat.reduceMod, sid_ne1, sid_ne2, sid_inj, sid_mod, gT, TK.isInt, TK.agg, Array.toList]
        have hs : ¬ szOf a = szOf b := by simpa using hs
        rw [if_neg hs]
      · have hs : szOf a = szOf b := by simpa using hs
        rw [if_pos hs]
  · have ha : decide (0 ≤ a ∧ a < 64) = false := by rwa [Bool.not_eq_true'] at h
    rw [ha]; rfl
end Go.Proofs.YtmpjajhklilleaaDoor

namespace Go.Proofs.YtmpjajhklilleaaDoor
open Go.Abs
set_option linter.unusedSimpArgs false
set_option linter.unusedVariables false
/-- A graph: edges are sets of two points, in order. -/
def edgeP (n : Int) (xs : List Int) (k : Nat) : Prop := inSet n (xs.getD k 0) = true ∧ popN (xs.getD k 0).toNat = 2 ∧ (0 < k → xs.getD (k - 1) 0 < xs.getD k 0)
def graphP (n : Int) (xs : List Int) : Prop := 1 ≤ n ∧ n ≤ 6 ∧ ∀ k, k < xs.length → edgeP n xs k
open Classical in
noncomputable def isGraph (n : Int) (xs : List Int) : Bool := decide (graphP n xs)
open Classical in
theorem isGraph_no {n : Int} {xs : List Int} (h : ¬ graphP n xs) : isGraph n xs = false := decide_eq_false h
open Classical in
theorem isGraph_yes {n : Int} {xs : List Int} (h : graphP n xs) : isGraph n xs = true := decide_eq_true h
end Go.Proofs.YtmpjajhklilleaaDoor

namespace Go.Proofs.YtmpjajhklilleaaDoor
open Go.Abs
set_option linter.unusedSimpArgs false
set_option linter.unusedVariables false
theorem szI_le {n : Int} {k : Nat} (h1 : n ≤ 1048576) (h : ¬ szI n k < 0) : 0 ≤ szI n k ∧ szI n k ≤ 1048576 ∧ k ≤ 1048576 := by
  unfold szI at h ⊢
  split at h
  · simp at h
  · rename_i h2
    rw [if_neg h2]
    omega
/-- Two numbered lists are one. -/
def sameG (n : Int) (xs : List Int) (m : Int) (ys : List Int) : Bool := n == m && decide (xs = ys)
end Go.Proofs.YtmpjajhklilleaaDoor

namespace Go.Proofs.YtmpjajhklilleaaDoor
open Go.Abs
set_option linter.unusedSimpArgs false
set_option linter.unusedVariables false

theorem sameG_refl (n : Int) (xs : List Int) : sameG n xs n xs = true := by simp [sameG]
/-- Numbers from one on. -/
def mks (k : Int) (n : Nat) : List Int := (List.range n).map fun i : Nat => k + (i : Int)
theorem mks_length (k : Int) (n : Nat) : (mks k n).length = n := by simp [mks]
theorem mks_getD (k : Int) {n i : Nat} (h : i < n) : (mks k n).getD i 0 = k + i := by simp [mks, List.getD, h]
theorem mks_set (k : Int) (xs : List Int) {i : Nat} (h : i < xs.length) : (mks k i ++ xs.drop i).set i (k + i) = mks k (i + 1) ++ xs.drop (i + 1) := by
  have hl : (mks k i).length = i := mks_length k i
  rw [List.set_append_right _ _ (by omega), hl, Nat.sub_self]
  have e : xs.drop i = xs[i] :: xs.drop (i + 1) := by rw [List.drop_eq_getElem_cons h]
  rw [e, List.set_cons_zero]
  simp [mks, List.range_succ]
/-- What both make of a graph. -/
noncomputable def idealOf (n : Int) (xs : List Int) : RV := .tup [.ag [.im (int (if isGraph n xs = true then n else 0)), .fr 3 1 (iL (if isGraph n xs = true then xs else []))], .im (bool (isGraph n xs))]
end Go.Proofs.YtmpjajhklilleaaDoor

namespace Go.Proofs.YtmpjajhklilleaaDoor
open Go.Abs
set_option linter.unusedSimpArgs false
set_option linter.unusedVariables false

/-- The place of a number in a list, or -1. -/
def idxOf (xs : List Int) (n : Int) : Int := if n ∈ xs then (xs.idxOf n : Nat) else -1
theorem idxOf_at {xs : List Int} {n : Int} {k : Nat} (h : k < xs.length) (he : xs.getD k 0 = n) (hall : ∀ i, i < k → xs.getD i 0 ≠ n) : idxOf xs n = k := by
  have hm : n ∈ xs := he ▸ getD_mem 0 h
  unfold idxOf
  rw [if_pos hm]
  have h1 : xs.idxOf n < xs.length := List.idxOf_lt_length_iff.2 hm
  have h2 : xs.getD (xs.idxOf n) 0 = n := by rw [getD_at 0 h1]; exact List.getElem_idxOf h1
  rcases Nat.lt_trichotomy (xs.idxOf n) k with hlt | heq | hgt
  · exact absurd h2 (hall _ hlt)
  · rw [heq]
  · have := List.not_of_lt_findIdx (p := (· == n)) (xs := xs) (i := k) hgt
    rw [getD_at 0 h] at he
    simp [he] at this
theorem c_spec_l2Before {a b : Int} (ha : 0 ≤ a ∧ a < 64) (hb : 0 ≤ b ∧ b < 64) : AC Tryd.prog 59 [int a, int b] (.im (bool (befS a b))) := by
  refine AC.go (rs := [.tmp 4]) T_ok mixed Tryd.func59 rfl rfl rfl (by kernel_rfl) fun hl => ?_
  simp (maxSteps := 5000000) -dsimp only [↓gp, gq, reduceCtorEq, Nat.reduceEqDiff, Nat.reduceLT, Nat.reduceLeDiff, Nat.reduceAdd, Nat.reduceMul, Nat.reduceSub, Nat.reduceBEq, Int.reduceToNat, Int.reduceLE, Int.reduceLT, Int.reduceNeg, Nat.reduceMod, sid_ne1, sid_ne2, sid_inj, sid_mod, gT, TK.isInt, TK.agg, Array.toList]
  refine askK_of (c_spec_l2Sizei ha.1 (by omega)) ?_
  simp (maxSteps := 5000000) -dsimp only [↓gp, gq, reduceCtorEq, Nat.reduceEqDiff, Nat.reduceLT, Nat.reduceLeDiff, Nat.reduceAdd, Nat.reduceMul, Nat.reduceSub, Nat.reduceBEq, Int.reduceToNat, Int.reduceLE, Int.reduceLT, Int.reduceNeg, Nat.reduceMod, sid_ne1, sid_ne2, sid_inj, sid_mod, gT, TK.isInt, TK.agg, Array.toList]
  refine askK_of (c_spec_l2Sizei hb.1 (by omega)) ?_
  simp (maxSteps := 5000000) -dsimp only [↓gp, gq, reduceCtorEq, Nat.reduceEqDiff, Nat.reduceLT, Nat.reduceLeDiff, Nat.reduceAdd, Nat.reduceMul, Nat.reduceSub, Nat.reduceBEq, Int.reduceToNat, Int.reduceLE, Int.reduceLT, Int.reduceNeg, Nat.reduceMod, sid_ne1, sid_ne2, sid_inj, sid_mod, gT, TK.isInt, TK.agg, Array.toList]
  unfold befS szOf
  rw [if_pos ha, if_pos hb, decide_eq_true ha, decide_eq_true hb]
  simp only [Bool.true_and]
  refine ⟨fun h => ⟨fun h2 => ?_, fun h2 => ?_⟩, fun h => ?_⟩
  · rw [if_pos (by simpa using h2)]
  · rw [if_neg (by simpa using h2)]
    exact decide_eq_false (by omega)
  · rw [if_neg (by omega)]
    exact decide_eq_true (by omega)
/-- Sets of a number of points, none within another, in order. -/
def cxAt (n : Int) (xs : List Int) (k : Nat) : Prop := inSet n (xs.getD k 0) = true ∧ (0 < k → befS (xs.getD (k - 1) 0) (xs.getD k 0) = true) ∧ ∀ i, i < k → iand .i64 (xs.getD i 0) (xs.getD k 0) ≠ xs.getD i 0
def cxP (n : Int) (xs : List Int) : Prop := 1 ≤ n ∧ n ≤ 6 ∧ ∀ k, k < xs.length → cxAt n xs k
open Classical in
noncomputable def isCx (n : Int) (xs : List Int) : Bool := decide (cxP n xs)
open Classical in
theorem isCx_no {n : Int} {xs : List Int} (h : ¬ cxP n xs) : isCx n xs = false := decide_eq_false h
open Classical in
theorem isCx_yes {n : Int} {xs : List Int} (h : cxP n xs) : isCx n xs = true := decide_eq_true h
open Classical in
theorem isCx_iff {n : Int} {xs : List Int} : isCx n xs = true ↔ cxP n xs := decide_eq_true_iff
theorem c_spec_IsComplex (n : Int) (xs : List Int) : AC Tryd.prog 34 [.ag [int n, ints xs]] (.im (bool (isCx n xs))) := by
  refine AC.go (rs := [.tmp 2]) T_ok mixed Tryd.func34 rfl rfl rfl (by kernel_rfl) fun hl => ?_
  simp only [lens_cons, lens_nil, and_true, lens2_ag2, lens1_v, lens1_iL, true_and] at hl
  simp (maxSteps := 5000000) -dsimp only [↓gp, gq, reduceCtorEq, Nat.reduceEqDiff, Nat.reduceLT, Nat.reduceLeDiff, Nat.reduceAdd, Nat.reduceMul, Nat.reduceSub, Nat.reduceBEq, Int.reduceToNat, Int.reduceLE, Int.reduceLT, Int.reduceNeg, Nat.reduceMod, sid_ne1, sid_ne2, sid_inj, sid_mod, gT, TK.isInt, TK.agg, Array.toList]
  refine loop_of (fun (k : Nat) s => s.sl 1 = .ref 1 1 0 ∧ s.rw 1 = ⟨1, .box 31 [int n, ints xs]⟩ ∧ s.sl 3 = int k ∧ (k ≤ xs.length ∧ ∀ i, i < k → cxAt n xs i)) (fun k => xs.length - k) (0) (by refine ⟨?_, ?_, ?_, by simp⟩ <;> (first | (simp (maxSteps := 5000000) -dsimp only [gr, Nat.reduceEqDiff, Nat.reduceLT, Nat.reduceAdd, Nat.reduceMod, Nat.reduceBEq, sid_mod, sid_ne1, sid_ne2, sid_inj]; first | done | rfl | (simp; done)) | assumption | rfl)) ?_
  intro k sa ⟨h1a, r1a, h3a, hIa⟩
  obtain ⟨hk, hall⟩ := hIa
  have hw : IntKind.i64.wrap ((k : Int) - 1) = (k : Int) - 1 := wrap_id (by omega) (by omega)
  simp (maxSteps := 5000000) -dsimp only [↓gp, gq, reduceCtorEq, Nat.reduceEqDiff, Nat.reduceLT, Nat.reduceLeDiff, Nat.reduceAdd, Nat.reduceMul, Nat.reduceSub, Nat.reduceBEq, Int.reduceToNat, Int.reduceLE, Int.reduceLT, Int.reduceNeg, Nat.reduceMod, sid_ne1, sid_ne2, sid_inj, sid_mod, gT, TK.isInt, TK.agg, Array.toList, h1a, r1a, h3a, hw, toNat_pred]
  refine ⟨fun h => ⟨by kernel_rfl, h, h, askK_of (c_spec_IsSet _ _) ?_⟩, fun h => askK_of (c_spec_l1In _ _ _) ?_⟩
  · simp (maxSteps := 5000000) -dsimp only [↓gp, gq, reduceCtorEq, Nat.reduceEqDiff, Nat.reduceLT, Nat.reduceLeDiff, Nat.reduceAdd, Nat.reduceMul, Nat.reduceSub, Nat.reduceBEq, Int.reduceToNat, Int.reduceLE, Int.reduceLT, Int.reduceNeg, Nat.reduceMod, sid_ne1, sid_ne2, sid_inj, sid_mod, gT, TK.isInt, TK.agg, Array.toList, h1a, r1a, h3a, hw, toNat_pred]
    refine ⟨fun hs => ⟨fun h0 => ⟨by omega, by omega, by omega, h, h, ?_⟩, fun h0 => ?_⟩, fun hs => ?_⟩
    · have hs : inSet n (xs.getD k 0) = true := by rwa [Bool.not_eq_false'] at hs
      have hb := inSet_lt hs
      have hb' := inSet_lt (hall (k - 1) (by omega)).1
      refine askK_of (c_spec_l2Before hb' hb) ?_
      simp (maxSteps := 5000000) -dsimp only [↓gp, gq, reduceCtorEq, Nat.reduceEqDiff, Nat.reduceLT, Nat.reduceLeDiff, Nat.reduceAdd, Nat.reduceMul, Nat.reduceSub, Nat.reduceBEq, Int.reduceToNat, Int.reduceLE, Int.reduceLT, Int.reduceNeg, Nat.reduceMod, sid_ne1, sid_ne2, sid_inj, sid_mod, gT, TK.isInt, TK.agg, Array.toList, h1a, r1a, h3a, hw, toNat_pred]
      refine ⟨fun hbef => isCx_no fun hg => ?_, fun hbef => ?_⟩
      · have := (hg.2.2 k h).2.1 (by omega)
        rw [this] at hbef; cases hbef
      · have hbef : 0 < k → befS (xs.getD (k - 1) 0) (xs.getD k 0) = true := fun _ => by rwa [Bool.not_eq_false'] at hbef
        refine loop_of (fun (i : Nat) s => s.sl 1 = .ref 1 1 0 ∧ s.rw 1 = ⟨1, .box 31 [int n, ints xs]⟩ ∧ s.sl 3 = int k ∧ s.sl 4 = int i ∧ (i ≤ k ∧ ∀ j, j < i → iand .i64 (xs.getD j 0) (xs.getD k 0) ≠ xs.getD j 0)) (fun i => k - i) (0) (by refine ⟨?_, ?_, ?_, ?_, by simp⟩ <;> (first | (simp (maxSteps := 5000000) -dsimp only [gr, Nat.reduceEqDiff, Nat.reduceLT, Nat.reduceAdd, Nat.reduceMod, Nat.reduceBEq, sid_mod, sid_ne1, sid_ne2, sid_inj, h1a, r1a, h3a]; first | done | rfl | (simp; done)) | assumption | rfl)) ?_
        intro i sb ⟨h1b, r1b, h3b, h4b, hIb⟩
        obtain ⟨hik, hin⟩ := hIb
        simp (maxSteps := 5000000) -dsimp only [↓gp, gq, reduceCtorEq, Nat.reduceEqDiff, Nat.reduceLT, Nat.reduceLeDiff, Nat.reduceAdd, Nat.reduceMul, Nat.reduceSub, Nat.reduceBEq, Int.reduceToNat, Int.reduceLE, Int.reduceLT, Int.reduceNeg, Nat.reduceMod, sid_ne1, sid_ne2, sid_inj, sid_mod, gT, TK.isInt, TK.agg, Array.toList, h1b, r1b, h3b, h4b]
        refine ⟨fun hi => ⟨by kernel_rfl, by omega, by omega, h, h, by omega, by omega, fun he => ?_, fun he => again_of (i + 1) ⟨(by (first | (simp (maxSteps := 5000000) -dsimp only [gr, Nat.reduceEqDiff, Nat.reduceLT, Nat.reduceAdd, Nat.reduceMod, Nat.reduceBEq, sid_mod, sid_ne1, sid_ne2, sid_inj, h1b, r1b, h3b, h4b, wrap_nat hi (by omega)]; first | done | rfl | (simp; done)) | assumption | rfl)), (by (first | (simp (maxSteps := 5000000) -dsimp only [gr, Nat.reduceEqDiff, Nat.reduceLT, Nat.reduceAdd, Nat.reduceMod, Nat.reduceBEq, sid_mod, sid_ne1, sid_ne2, sid_inj, h1b, r1b, h3b, h4b, wrap_nat hi (by omega)]; first | done | rfl | (simp; done)) | assumption | rfl)), (by (first | (simp (maxSteps := 5000000) -dsimp only [gr, Nat.reduceEqDiff, Nat.reduceLT, Nat.reduceAdd, Nat.reduceMod, Nat.reduceBEq, sid_mod, sid_ne1, sid_ne2, sid_inj, h1b, r1b, h3b, h4b, wrap_nat hi (by omega)]; first | done | rfl | (simp; done)) | assumption | rfl)), (by (first | (simp (maxSteps := 5000000) -dsimp only [gr, Nat.reduceEqDiff, Nat.reduceLT, Nat.reduceAdd, Nat.reduceMod, Nat.reduceBEq, sid_mod, sid_ne1, sid_ne2, sid_inj, h1b, r1b, h3b, h4b, wrap_nat hi (by omega)]; first | done | rfl | (simp; done)) | assumption | rfl)), ⟨by omega, fun j hj => ?_⟩⟩ (by first | omega | (simp only; omega) | (dsimp only; omega) | (show _ < _; simp; omega))⟩, fun hi => again_of (k + 1) ⟨(by (first | (simp (maxSteps := 5000000) -dsimp only [gr, Nat.reduceEqDiff, Nat.reduceLT, Nat.reduceAdd, Nat.reduceMod, Nat.reduceBEq, sid_mod, sid_ne1, sid_ne2, sid_inj, h1a, r1a, h3a, h1b, r1b, h3b, h4b, wrap_nat h hl]; first | done | rfl | (simp; done)) | assumption | rfl)), (by (first | (simp (maxSteps := 5000000) -dsimp only [gr, Nat.reduceEqDiff, Nat.reduceLT, Nat.reduceAdd, Nat.reduceMod, Nat.reduceBEq, sid_mod, sid_ne1, sid_ne2, sid_inj, h1a, r1a, h3a, h1b, r1b, h3b, h4b, wrap_nat h hl]; first | done | rfl | (simp; done)) | assumption | rfl)), (by (first | (simp (maxSteps := 5000000) -dsimp only [gr, Nat.reduceEqDiff, Nat.reduceLT, Nat.reduceAdd, Nat.reduceMod, Nat.reduceBEq, sid_mod, sid_ne1, sid_ne2, sid_inj, h1a, r1a, h3a, h1b, r1b, h3b, h4b, wrap_nat h hl]; first | done | rfl | (simp; done)) | assumption | rfl)), ⟨by omega, fun j hj => ?_⟩⟩ (by first | omega | (simp only; omega) | (dsimp only; omega) | (show _ < _; simp; omega))⟩
        · exact isCx_no fun hg => (hg.2.2 k h).2.2 i hi (by simpa using he)
        · rcases Nat.lt_succ_iff_lt_or_eq.1 hj with hj | rfl
          · exact hin j hj
          · simpa using he
        · rcases Nat.lt_succ_iff_lt_or_eq.1 hj with hj | rfl
          · exact hall j hj
          · exact ⟨hs, hbef, fun i hi => hin i (by omega)⟩
    · have hs : inSet n (xs.getD k 0) = true := by rwa [Bool.not_eq_false'] at hs
      have hbef : 0 < k → befS (xs.getD (k - 1) 0) (xs.getD k 0) = true := fun h => by omega
      refine loop_of (fun (i : Nat) s => s.sl 1 = .ref 1 1 0 ∧ s.rw 1 = ⟨1, .box 31 [int n, ints xs]⟩ ∧ s.sl 3 = int k ∧ s.sl 4 = int i ∧ (i ≤ k ∧ ∀ j, j < i → iand .i64 (xs.getD j 0) (xs.getD k 0) ≠ xs.getD j 0)) (fun i => k - i) (0) (by refine ⟨?_, ?_, ?_, ?_, by simp⟩ <;> (first | (simp (maxSteps := 5000000) -dsimp only [gr, Nat.reduceEqDiff, Nat.reduceLT, Nat.reduceAdd, Nat.reduceMod, Nat.reduceBEq, sid_mod, sid_ne1, sid_ne2, sid_inj, h1a, r1a, h3a]; first | done | rfl | (simp; done)) | assumption | rfl)) ?_
      intro i sb ⟨h1b, r1b, h3b, h4b, hIb⟩
      obtain ⟨hik, hin⟩ := hIb
      simp (maxSteps := 5000000) -dsimp only [↓gp, gq, reduceCtorEq, Nat.reduceEqDiff, Nat.reduceLT, Nat.reduceLeDiff, Nat.reduceAdd, Nat.reduceMul, Nat.reduceSub, Nat.reduceBEq, Int.reduceToNat, Int.reduceLE, Int.reduceLT, Int.reduceNeg, Nat.reduceMod, sid_ne1, sid_ne2, sid_inj, sid_mod, gT, TK.isInt, TK.agg, Array.toList, h1b, r1b, h3b, h4b]
      refine ⟨fun hi => ⟨by kernel_rfl, by omega, by omega, h, h, by omega, by omega, fun he => ?_, fun he => again_of (i + 1) ⟨(by (first | (simp (maxSteps := 5000000) -dsimp only [gr, Nat.reduceEqDiff, Nat.reduceLT, Nat.reduceAdd, Nat.reduceMod, Nat.reduceBEq, sid_mod, sid_ne1, sid_ne2, sid_inj, h1b, r1b, h3b, h4b, wrap_nat hi (by omega)]; first | done | rfl | (simp; done)) | assumption | rfl)), (by (first | (simp (maxSteps := 5000000) -dsimp only [gr, Nat.reduceEqDiff, Nat.reduceLT, Nat.reduceAdd, Nat.reduceMod, Nat.reduceBEq, sid_mod, sid_ne1, sid_ne2, sid_inj, h1b, r1b, h3b, h4b, wrap_nat hi (by omega)]; first | done | rfl | (simp; done)) | assumption | rfl)), (by (first | (simp (maxSteps := 5000000) -dsimp only [gr, Nat.reduceEqDiff, Nat.reduceLT, Nat.reduceAdd, Nat.reduceMod, Nat.reduceBEq, sid_mod, sid_ne1, sid_ne2, sid_inj, h1b, r1b, h3b, h4b, wrap_nat hi (by omega)]; first | done | rfl | (simp; done)) | assumption | rfl)), (by (first | (simp (maxSteps := 5000000) -dsimp only [gr, Nat.reduceEqDiff, Nat.reduceLT, Nat.reduceAdd, Nat.reduceMod, Nat.reduceBEq, sid_mod, sid_ne1, sid_ne2, sid_inj, h1b, r1b, h3b, h4b, wrap_nat hi (by omega)]; first | done | rfl | (simp; done)) | assumption | rfl)), ⟨by omega, fun j hj => ?_⟩⟩ (by first | omega | (simp only; omega) | (dsimp only; omega) | (show _ < _; simp; omega))⟩, fun hi => again_of (k + 1) ⟨(by (first | (simp (maxSteps := 5000000) -dsimp only [gr, Nat.reduceEqDiff, Nat.reduceLT, Nat.reduceAdd, Nat.reduceMod, Nat.reduceBEq, sid_mod, sid_ne1, sid_ne2, sid_inj, h1a, r1a, h3a, h1b, r1b, h3b, h4b, wrap_nat h hl]; first | done | rfl | (simp; done)) | assumption | rfl)), (by (first | (simp (maxSteps := 5000000) -dsimp only [gr, Nat.reduceEqDiff, Nat.reduceLT, Nat.reduceAdd, Nat.reduceMod, Nat.reduceBEq, sid_mod, sid_ne1, sid_ne2, sid_inj, h1a, r1a, h3a, h1b, r1b, h3b, h4b, wrap_nat h hl]; first | done | rfl | (simp; done)) | assumption | rfl)), (by (first | (simp (maxSteps := 5000000) -dsimp only [gr, Nat.reduceEqDiff, Nat.reduceLT, Nat.reduceAdd, Nat.reduceMod, Nat.reduceBEq, sid_mod, sid_ne1, sid_ne2, sid_inj, h1a, r1a, h3a, h1b, r1b, h3b, h4b, wrap_nat h hl]; first | done | rfl | (simp; done)) | assumption | rfl)), ⟨by omega, fun j hj => ?_⟩⟩ (by first | omega | (simp only; omega) | (dsimp only; omega) | (show _ < _; simp; omega))⟩
      · exact isCx_no fun hg => (hg.2.2 k h).2.2 i hi (by simpa using he)
      · rcases Nat.lt_succ_iff_lt_or_eq.1 hj with hj | rfl
        · exact hin j hj
        · simpa using he
      · rcases Nat.lt_succ_iff_lt_or_eq.1 hj with hj | rfl
        · exact hall j hj
        · exact ⟨hs, hbef, fun i hi => hin i (by omega)⟩
    · have hs : inSet n (xs.getD k 0) = false := by rwa [Bool.not_eq_true'] at hs
      exact isCx_no fun hg => by have := (hg.2.2 k h).1; rw [hs] at this; cases this
  · simp (maxSteps := 5000000) -dsimp only [↓gp, gq, reduceCtorEq, Nat.reduceEqDiff, Nat.reduceLT, Nat.reduceLeDiff, Nat.reduceAdd, Nat.reduceMul, Nat.reduceSub, Nat.reduceBEq, Int.reduceToNat, Int.reduceLE, Int.reduceLT, Int.reduceNeg, Nat.reduceMod, sid_ne1, sid_ne2, sid_inj, sid_mod, gT, TK.isInt, TK.agg, Array.toList, h1a, r1a, h3a, hw, toNat_pred]
    by_cases hn : 1 ≤ n ∧ n ≤ 6
    · rw [isCx_yes ⟨hn.1, hn.2, fun k hk => hall k (by omega)⟩]
      simp [hn.1, hn.2]
    · rw [isCx_no fun hg => hn ⟨hg.1, hg.2.1⟩]
      symm
      rw [Bool.and_eq_false_iff, decide_eq_false_iff_not, decide_eq_false_iff_not]
      omega
theorem c_impl_isAntichain (n : Int) (xs : List Int) : AC Tryd.prog 64 [int n, ints xs] (.im (bool (isCx n xs))) := by
  refine AC.go (rs := [.tmp 4]) T_ok mixed Tryd.func64 rfl rfl rfl (by kernel_rfl) fun hl => ?_
  simp only [lens_cons, lens_nil, and_true, lens2_v, lens2_iL, true_and] at hl
  simp (maxSteps := 5000000) -dsimp only [↓gp, gq, reduceCtorEq, Nat.reduceEqDiff, Nat.reduceLT, Nat.reduceLeDiff, Nat.reduceAdd, Nat.reduceMul, Nat.reduceSub, Nat.reduceBEq, Int.reduceToNat, Int.reduceLE, Int.reduceLT, Int.reduceNeg, Nat.reduceMod, sid_ne1, sid_ne2, sid_inj, sid_mod, gT, TK.isInt, TK.agg, Array.toList]
  refine ⟨fun hn => ⟨fun h6 => isCx_no fun hg => by have := hg.2.1; omega, fun h6 => ?_⟩, fun hn => isCx_no fun hg => by have := hg.1; omega⟩
  refine loop_of (fun (k : Nat) s => s.sl 0 = int n ∧ s.sl 1 = ints xs ∧ s.sl 17 = ints xs ∧ s.sl 18 = int xs.length ∧ s.sl 19 = int k ∧ (k ≤ xs.length ∧ ∀ i, i < k → inSet n (xs.getD i 0) = true ∧ (0 < i → befS (xs.getD (i - 1) 0) (xs.getD i 0) = true))) (fun k => xs.length - k) (0) (by refine ⟨?_, ?_, ?_, ?_, ?_, by simp⟩ <;> (first | (simp (maxSteps := 5000000) -dsimp only [gr, Nat.reduceEqDiff, Nat.reduceLT, Nat.reduceAdd, Nat.reduceMod, Nat.reduceBEq, sid_mod, sid_ne1, sid_ne2, sid_inj]; first | done | rfl | (simp; done)) | assumption | rfl)) ?_
  intro k sa ⟨h0a, h1a, h17a, h18a, h19a, hIa⟩
  obtain ⟨hk, hall⟩ := hIa
  have hw : IntKind.i64.wrap ((k : Int) - 1) = (k : Int) - 1 := wrap_id (by omega) (by omega)
  simp (maxSteps := 5000000) -dsimp only [↓gp, gq, reduceCtorEq, Nat.reduceEqDiff, Nat.reduceLT, Nat.reduceLeDiff, Nat.reduceAdd, Nat.reduceMul, Nat.reduceSub, Nat.reduceBEq, Int.reduceToNat, Int.reduceLE, Int.reduceLT, Int.reduceNeg, Nat.reduceMod, sid_ne1, sid_ne2, sid_inj, sid_mod, gT, TK.isInt, TK.agg, Array.toList, h0a, h1a, h17a, h18a, h19a, hw, toNat_pred]
  refine ⟨fun h => ⟨h, h, askK_of (c_impl_IsSet _ _) ?_⟩, fun h => ?_⟩
  · simp (maxSteps := 5000000) -dsimp only [↓gp, gq, reduceCtorEq, Nat.reduceEqDiff, Nat.reduceLT, Nat.reduceLeDiff, Nat.reduceAdd, Nat.reduceMul, Nat.reduceSub, Nat.reduceBEq, Int.reduceToNat, Int.reduceLE, Int.reduceLT, Int.reduceNeg, Nat.reduceMod, sid_ne1, sid_ne2, sid_inj, sid_mod, gT, TK.isInt, TK.agg, Array.toList, h0a, h1a, h17a, h18a, h19a, hw, toNat_pred]
    refine ⟨fun hs => ?_, fun hs => ⟨fun h0 => ⟨by omega, by omega, by omega, askK_of (c_impl_BeforeSet _ _) ?_⟩, fun h0 => ?_⟩⟩
    · have hs : inSet n (xs.getD k 0) = false := by rwa [Bool.not_eq_true'] at hs
      exact isCx_no fun hg => by have := (hg.2.2 k h).1; rw [hs] at this; cases this
    · simp (maxSteps := 5000000) -dsimp only [↓gp, gq, reduceCtorEq, Nat.reduceEqDiff, Nat.reduceLT, Nat.reduceLeDiff, Nat.reduceAdd, Nat.reduceMul, Nat.reduceSub, Nat.reduceBEq, Int.reduceToNat, Int.reduceLE, Int.reduceLT, Int.reduceNeg, Nat.reduceMod, sid_ne1, sid_ne2, sid_inj, sid_mod, gT, TK.isInt, TK.agg, Array.toList, h0a, h1a, h17a, h18a, h19a, hw, toNat_pred]
      refine ⟨fun hb => isCx_no fun hg => ?_, fun hb => again_of (k + 1) ⟨(by (first | (simp (maxSteps := 5000000) -dsimp only [gr, Nat.reduceEqDiff, Nat.reduceLT, Nat.reduceAdd, Nat.reduceMod, Nat.reduceBEq, sid_mod, sid_ne1, sid_ne2, sid_inj, h0a, h1a, h17a, h18a, h19a, wrap_nat h hl]; first | done | rfl | (simp; done)) | assumption | rfl)), (by (first | (simp (maxSteps := 5000000) -dsimp only [gr, Nat.reduceEqDiff, Nat.reduceLT, Nat.reduceAdd, Nat.reduceMod, Nat.reduceBEq, sid_mod, sid_ne1, sid_ne2, sid_inj, h0a, h1a, h17a, h18a, h19a, wrap_nat h hl]; first | done | rfl | (simp; done)) | assumption | rfl)), (by (first | (simp (maxSteps := 5000000) -dsimp only [gr, Nat.reduceEqDiff, Nat.reduceLT, Nat.reduceAdd, Nat.reduceMod, Nat.reduceBEq, sid_mod, sid_ne1, sid_ne2, sid_inj, h0a, h1a, h17a, h18a, h19a, wrap_nat h hl]; first | done | rfl | (simp; done)) | assumption | rfl)), (by (first | (simp (maxSteps := 5000000) -dsimp only [gr, Nat.reduceEqDiff, Nat.reduceLT, Nat.reduceAdd, Nat.reduceMod, Nat.reduceBEq, sid_mod, sid_ne1, sid_ne2, sid_inj, h0a, h1a, h17a, h18a, h19a, wrap_nat h hl]; first | done | rfl | (simp; done)) | assumption | rfl)), (by (first | (simp (maxSteps := 5000000) -dsimp only [gr, Nat.reduceEqDiff, Nat.reduceLT, Nat.reduceAdd, Nat.reduceMod, Nat.reduceBEq, sid_mod, sid_ne1, sid_ne2, sid_inj, h0a, h1a, h17a, h18a, h19a, wrap_nat h hl]; first | done | rfl | (simp; done)) | assumption | rfl)), ⟨by omega, fun j hj => ?_⟩⟩ (by first | omega | (simp only; omega) | (dsimp only; omega) | (show _ < _; simp; omega))⟩
      · have := (hg.2.2 k h).2.1 (by omega)
        rw [this] at hb; cases hb
      · rcases Nat.lt_succ_iff_lt_or_eq.1 hj with hj | rfl
        · exact hall j hj
        · exact ⟨by rwa [Bool.not_eq_false'] at hs, fun _ => by rwa [Bool.not_eq_false'] at hb⟩
    · refine again_of (k + 1) ⟨(by (first | (simp (maxSteps := 5000000) -dsimp only [gr, Nat.reduceEqDiff, Nat.reduceLT, Nat.reduceAdd, Nat.reduceMod, Nat.reduceBEq, sid_mod, sid_ne1, sid_ne2, sid_inj, h0a, h1a, h17a, h18a, h19a, wrap_nat h hl]; first | done | rfl | (simp; done)) | assumption | rfl)), (by (first | (simp (maxSteps := 5000000) -dsimp only [gr, Nat.reduceEqDiff, Nat.reduceLT, Nat.reduceAdd, Nat.reduceMod, Nat.reduceBEq, sid_mod, sid_ne1, sid_ne2, sid_inj, h0a, h1a, h17a, h18a, h19a, wrap_nat h hl]; first | done | rfl | (simp; done)) | assumption | rfl)), (by (first | (simp (maxSteps := 5000000) -dsimp only [gr, Nat.reduceEqDiff, Nat.reduceLT, Nat.reduceAdd, Nat.reduceMod, Nat.reduceBEq, sid_mod, sid_ne1, sid_ne2, sid_inj, h0a, h1a, h17a, h18a, h19a, wrap_nat h hl]; first | done | rfl | (simp; done)) | assumption | rfl)), (by (first | (simp (maxSteps := 5000000) -dsimp only [gr, Nat.reduceEqDiff, Nat.reduceLT, Nat.reduceAdd, Nat.reduceMod, Nat.reduceBEq, sid_mod, sid_ne1, sid_ne2, sid_inj, h0a, h1a, h17a, h18a, h19a, wrap_nat h hl]; first | done | rfl | (simp; done)) | assumption | rfl)), (by (first | (simp (maxSteps := 5000000) -dsimp only [gr, Nat.reduceEqDiff, Nat.reduceLT, Nat.reduceAdd, Nat.reduceMod, Nat.reduceBEq, sid_mod, sid_ne1, sid_ne2, sid_inj, h0a, h1a, h17a, h18a, h19a, wrap_nat h hl]; first | done | rfl | (simp; done)) | assumption | rfl)), ⟨by omega, fun j hj => ?_⟩⟩ (by first | omega | (simp only; omega) | (dsimp only; omega) | (show _ < _; simp; omega))
      rcases Nat.lt_succ_iff_lt_or_eq.1 hj with hj | rfl
      · exact hall j hj
      · exact ⟨by rwa [Bool.not_eq_false'] at hs, fun _ => by omega⟩
  · have hall' : ∀ i, i < xs.length → inSet n (xs.getD i 0) = true ∧ (0 < i → befS (xs.getD (i - 1) 0) (xs.getD i 0) = true) := fun i hi => hall i (by omega)
    clear hw hall
    have hsub : ∀ i j, i < xs.length → j < xs.length → (iandnot .i64 (xs.getD i 0) (xs.getD j 0) = 0 ↔ iand .i64 (xs.getD i 0) (xs.getD j 0) = xs.getD i 0) := fun i j hi hj => andnot_zero (inSet_lt (hall' i hi).1) (inSet_lt (hall' j hj).1)
    refine loop_of (fun (i : Nat) s => s.sl 1 = ints xs ∧ s.sl 41 = ints xs ∧ s.sl 42 = int xs.length ∧ s.sl 43 = int i ∧ (i ≤ xs.length ∧ ∀ j k, j < i → j < k → k < xs.length → iand .i64 (xs.getD j 0) (xs.getD k 0) ≠ xs.getD j 0)) (fun i => xs.length - i) (0) (by refine ⟨?_, ?_, ?_, ?_, by simp⟩ <;> (first | (simp (maxSteps := 5000000) -dsimp only [gr, Nat.reduceEqDiff, Nat.reduceLT, Nat.reduceAdd, Nat.reduceMod, Nat.reduceBEq, sid_mod, sid_ne1, sid_ne2, sid_inj, h0a, h1a, h17a, h18a, h19a]; first | done | rfl | (simp; done)) | assumption | rfl)) ?_
    intro i sb ⟨h1b, h41b, h42b, h43b, hIb⟩
    obtain ⟨hi, hin⟩ := hIb
    have hwi : i < xs.length → IntKind.i64.wrap ((i : Int) + 1) = ((i + 1 : Nat) : Int) := fun h => wrap_nat h hl
    simp (maxSteps := 5000000) -dsimp only [↓gp, gq, reduceCtorEq, Nat.reduceEqDiff, Nat.reduceLT, Nat.reduceLeDiff, Nat.reduceAdd, Nat.reduceMul, Nat.reduceSub, Nat.reduceBEq, Int.reduceToNat, Int.reduceLE, Int.reduceLT, Int.reduceNeg, Nat.reduceMod, sid_ne1, sid_ne2, sid_inj, sid_mod, gT, TK.isInt, TK.agg, Array.toList, h1b, h41b, h42b, h43b]
    refine ⟨fun hlt => ?_, fun hge => isCx_yes ⟨by omega, by omega, fun k hk => ⟨(hall' k hk).1, (hall' k hk).2, fun j hj => hin j k (by omega) hj hk⟩⟩⟩
    rw [hwi hlt]
    refine ⟨hlt, hlt, by omega, by omega, ?_⟩
    refine loop_of (fun (j : Nat) s => s.sl 1 = ints xs ∧ s.sl 41 = ints xs ∧ s.sl 42 = int xs.length ∧ s.sl 43 = int i ∧ s.sl 8 = int (xs.getD i 0) ∧ s.sl 51 = ints (xs.drop (i + 1)) ∧ s.sl 52 = int (xs.length - (i + 1) : Nat) ∧ s.sl 53 = int j ∧ (j ≤ xs.length - (i + 1) ∧ ∀ k, k < j → iand .i64 (xs.getD i 0) (xs.getD (i + 1 + k) 0) ≠ xs.getD i 0)) (fun j => xs.length - (i + 1) - j) (0) (by refine ⟨?_, ?_, ?_, ?_, ?_, ?_, ?_, ?_, by simp⟩ <;> (first | (simp (maxSteps := 5000000) -dsimp only [gr, Nat.reduceEqDiff, Nat.reduceLT, Nat.reduceAdd, Nat.reduceMod, Nat.reduceBEq, sid_mod, sid_ne1, sid_ne2, sid_inj, h1b, h41b, h42b, h43b]; first | done | rfl | (simp; done)) | assumption | rfl)) ?_
    intro j sc ⟨h1c, h41c, h42c, h43c, h8c, h51c, h52c, h53c, hIc⟩
    obtain ⟨hj, hinn⟩ := hIc
    have hd : ∀ j, (xs.drop (i + 1)).getD j 0 = xs.getD (i + 1 + j) 0 := fun j => by simp [List.getD]
    simp (maxSteps := 5000000) -dsimp only [↓gp, gq, reduceCtorEq, Nat.reduceEqDiff, Nat.reduceLT, Nat.reduceLeDiff, Nat.reduceAdd, Nat.reduceMul, Nat.reduceSub, Nat.reduceBEq, Int.reduceToNat, Int.reduceLE, Int.reduceLT, Int.reduceNeg, Nat.reduceMod, sid_ne1, sid_ne2, sid_inj, sid_mod, gT, TK.isInt, TK.agg, Array.toList, h1c, h41c, h42c, h43c, h8c, h51c, h52c, h53c, hd, List.length_drop]
    refine ⟨fun h2 => ⟨h2, h2, fun he => ?_, fun he => again_of (j + 1) ⟨(by (first | (simp (maxSteps := 5000000) -dsimp only [gr, Nat.reduceEqDiff, Nat.reduceLT, Nat.reduceAdd, Nat.reduceMod, Nat.reduceBEq, sid_mod, sid_ne1, sid_ne2, sid_inj, h1c, h41c, h42c, h43c, h8c, h51c, h52c, h53c, wrap_nat h2 (by omega)]; first | done | rfl | (simp; done)) | assumption | rfl)), (by (first | (simp (maxSteps := 5000000) -dsimp only [gr, Nat.reduceEqDiff, Nat.reduceLT, Nat.reduceAdd, Nat.reduceMod, Nat.reduceBEq, sid_mod, sid_ne1, sid_ne2, sid_inj, h1c, h41c, h42c, h43c, h8c, h51c, h52c, h53c, wrap_nat h2 (by omega)]; first | done | rfl | (simp; done)) | assumption | rfl)), (by (first | (simp (maxSteps := 5000000) -dsimp only [gr, Nat.reduceEqDiff, Nat.reduceLT, Nat.reduceAdd, Nat.reduceMod, Nat.reduceBEq, sid_mod, sid_ne1, sid_ne2, sid_inj, h1c, h41c, h42c, h43c, h8c, h51c, h52c, h53c, wrap_nat h2 (by omega)]; first | done | rfl | (simp; done)) | assumption | rfl)), (by (first | (simp (maxSteps := 5000000) -dsimp only [gr, Nat.reduceEqDiff, Nat.reduceLT, Nat.reduceAdd, Nat.reduceMod, Nat.reduceBEq, sid_mod, sid_ne1, sid_ne2, sid_inj, h1c, h41c, h42c, h43c, h8c, h51c, h52c, h53c, wrap_nat h2 (by omega)]; first | done | rfl | (simp; done)) | assumption | rfl)), (by (first | (simp (maxSteps := 5000000) -dsimp only [gr, Nat.reduceEqDiff, Nat.reduceLT, Nat.reduceAdd, Nat.reduceMod, Nat.reduceBEq, sid_mod, sid_ne1, sid_ne2, sid_inj, h1c, h41c, h42c, h43c, h8c, h51c, h52c, h53c, wrap_nat h2 (by omega)]; first | done | rfl | (simp; done)) | assumption | rfl)), (by (first | (simp (maxSteps := 5000000) -dsimp only [gr, Nat.reduceEqDiff, Nat.reduceLT, Nat.reduceAdd, Nat.reduceMod, Nat.reduceBEq, sid_mod, sid_ne1, sid_ne2, sid_inj, h1c, h41c, h42c, h43c, h8c, h51c, h52c, h53c, wrap_nat h2 (by omega)]; first | done | rfl | (simp; done)) | assumption | rfl)), (by (first | (simp (maxSteps := 5000000) -dsimp only [gr, Nat.reduceEqDiff, Nat.reduceLT, Nat.reduceAdd, Nat.reduceMod, Nat.reduceBEq, sid_mod, sid_ne1, sid_ne2, sid_inj, h1c, h41c, h42c, h43c, h8c, h51c, h52c, h53c, wrap_nat h2 (by omega)]; first | done | rfl | (simp; done)) | assumption | rfl)), (by (first | (simp (maxSteps := 5000000) -dsimp only [gr, Nat.reduceEqDiff, Nat.reduceLT, Nat.reduceAdd, Nat.reduceMod, Nat.reduceBEq, sid_mod, sid_ne1, sid_ne2, sid_inj, h1c, h41c, h42c, h43c, h8c, h51c, h52c, h53c, wrap_nat h2 (by omega)]; first | done | rfl | (simp; done)) | assumption | rfl)), ⟨by omega, fun k hk => ?_⟩⟩ (by first | omega | (simp only; omega) | (dsimp only; omega) | (show _ < _; simp; omega))⟩, fun h2 => again_of (i + 1) ⟨(by (first | (simp (maxSteps := 5000000) -dsimp only [gr, Nat.reduceEqDiff, Nat.reduceLT, Nat.reduceAdd, Nat.reduceMod, Nat.reduceBEq, sid_mod, sid_ne1, sid_ne2, sid_inj, h1b, h41b, h42b, h43b, h1c, h41c, h42c, h43c, h8c, h51c, h52c, h53c, hwi hlt]; first | done | rfl | (simp; done)) | assumption | rfl)), (by (first | (simp (maxSteps := 5000000) -dsimp only [gr, Nat.reduceEqDiff, Nat.reduceLT, Nat.reduceAdd, Nat.reduceMod, Nat.reduceBEq, sid_mod, sid_ne1, sid_ne2, sid_inj, h1b, h41b, h42b, h43b, h1c, h41c, h42c, h43c, h8c, h51c, h52c, h53c, hwi hlt]; first | done | rfl | (simp; done)) | assumption | rfl)), (by (first | (simp (maxSteps := 5000000) -dsimp only [gr, Nat.reduceEqDiff, Nat.reduceLT, Nat.reduceAdd, Nat.reduceMod, Nat.reduceBEq, sid_mod, sid_ne1, sid_ne2, sid_inj, h1b, h41b, h42b, h43b, h1c, h41c, h42c, h43c, h8c, h51c, h52c, h53c, hwi hlt]; first | done | rfl | (simp; done)) | assumption | rfl)), (by (first | (simp (maxSteps := 5000000) -dsimp only [gr, Nat.reduceEqDiff, Nat.reduceLT, Nat.reduceAdd, Nat.reduceMod, Nat.reduceBEq, sid_mod, sid_ne1, sid_ne2, sid_inj, h1b, h41b, h42b, h43b, h1c, h41c, h42c, h43c, h8c, h51c, h52c, h53c, hwi hlt]; first | done | rfl | (simp; done)) | assumption | rfl)), ⟨by omega, fun j k hj' hk hk' => ?_⟩⟩ (by first | omega | (simp only; omega) | (dsimp only; omega) | (show _ < _; simp; omega))⟩
    · refine isCx_no fun hg => (hg.2.2 (i + 1 + j) (by omega)).2.2 i (by omega) ((hsub i (i + 1 + j) hlt (by omega)).1 (by simpa using he))
    · rcases Nat.lt_succ_iff_lt_or_eq.1 hk with hk | rfl
      · exact hinn k hk
      · intro e
        have := (hsub i (i + 1 + k) hlt (by omega)).2 e
        rw [this] at he
        simp at he
    · rcases Nat.lt_succ_iff_lt_or_eq.1 hj' with hj' | rfl
      · exact hin j k hj' hk hk'
      · have := hinn (k - (j + 1)) (by omega)
        rwa [show j + 1 + (k - (j + 1)) = k by omega] at this
end Go.Proofs.YtmpjajhklilleaaDoor

namespace Go.Proofs.YtmpjajhklilleaaDoor
open Go.Abs
set_option linter.unusedSimpArgs false
set_option linter.unusedVariables false

theorem befS_irrefl (a : Int) : befS a a = false := by unfold befS; simp
theorem befS_trans {a b c : Int} (h1 : befS a b = true) (h2 : befS b c = true) : befS a c = true := by
  unfold befS at *
  simp only [Bool.and_eq_true, decide_eq_true_eq] at *
  obtain ⟨ha, hb, h1⟩ := h1
  obtain ⟨_, hc, h2⟩ := h2
  refine ⟨ha, hc, ?_⟩
  split at h1 <;> split at h2 <;> simp only [decide_eq_true_eq] at h1 h2
  · rw [if_pos (by omega)]; exact decide_eq_true (by omega)
  · rw [if_neg (by omega)]; exact decide_eq_true (by omega)
  · rw [if_neg (by omega)]; exact decide_eq_true (by omega)
  · rw [if_neg (by omega)]; exact decide_eq_true (by omega)
theorem cx_sorted {n : Int} {xs : List Int} (h : cxP n xs) : ∀ (j i : Nat), i < j → j < xs.length → befS (xs.getD i 0) (xs.getD j 0) = true := by
  intro j
  induction j with
  | zero => intro i hi; omega
  | succ j ih =>
    intro i hi hj
    have h1 := (h.2.2 (j + 1) hj).2.1 (by omega)
    rw [Nat.add_sub_cancel] at h1
    rcases Nat.lt_succ_iff_lt_or_eq.1 hi with hi | rfl
    · exact befS_trans (ih i hi (by omega)) h1
    · exact h1
theorem cx_nodup {n : Int} {xs : List Int} (h : cxP n xs) : xs.Nodup := by
  refine List.pairwise_iff_getElem.2 fun i j hi hj hij e => ?_
  have := cx_sorted h j i hij hj
  rw [getD_at 0 hi, getD_at 0 hj, e, befS_irrefl] at this
  cases this
theorem nodup_take {xs : List Int} (h : ∀ k, k < xs.length → xs.getD k 0 ∉ xs.take k) : xs.Nodup := by
  refine List.pairwise_iff_getElem.2 fun i j hi hj hij e => ?_
  refine h j hj ?_
  rw [getD_at 0 hj, ← e]
  exact List.mem_take_iff_getElem.2 ⟨i, by omega, rfl⟩
open Classical in
/-- The same sets in some order. -/
noncomputable def isOrd (n : Int) (xs list : List Int) : Bool := decide (cxP n xs ∧ list.Perm xs)
open Classical in
theorem isOrd_no {n : Int} {xs list : List Int} (h : ¬ (cxP n xs ∧ list.Perm xs)) : isOrd n xs list = false := decide_eq_false h
open Classical in
theorem isOrd_yes {n : Int} {xs list : List Int} (h : cxP n xs ∧ list.Perm xs) : isOrd n xs list = true := decide_eq_true h
open Classical in
theorem isOrd_iff {n : Int} {xs list : List Int} : isOrd n xs list = true ↔ (cxP n xs ∧ list.Perm xs) := decide_eq_true_iff
theorem isOrd_eq (n : Int) (xs list : List Int) (h : isCx n xs = true) : decide (xs.length = list.length ∧ ∀ x ∈ xs, x ∈ list) = isOrd n xs list := by
  have hc := isCx_iff.1 h
  by_cases hp : xs.length = list.length ∧ ∀ x ∈ xs, x ∈ list
  · rw [decide_eq_true hp, isOrd_yes ⟨hc, (perm_of_sub (cx_nodup hc) hp.2 (by omega)).symm⟩]
  · rw [decide_eq_false hp, isOrd_no fun hg => hp ⟨hg.2.length_eq.symm, fun x hx => hg.2.mem_iff.2 hx⟩]
end Go.Proofs.YtmpjajhklilleaaDoor

namespace Go.Proofs.YtmpjajhklilleaaDoor
open Go.Abs
set_option linter.unusedSimpArgs false
set_option linter.unusedVariables false

/-- The points that are not in a set. -/
def compl (n s : Int) : Int := if inSet n s = true then 2 ^ n.toNat - 1 - s else -1
theorem inSet_nat {n s : Int} (h : inSet n s = true) : ∃ m t : Nat, n = m ∧ s = t ∧ m ≤ 6 ∧ t < 2 ^ m := by
  unfold inSet at h
  have h := of_decide_eq_true h
  obtain ⟨m, rfl⟩ := Int.eq_ofNat_of_zero_le h.1
  obtain ⟨t, rfl⟩ := Int.eq_ofNat_of_zero_le h.2.2.1
  refine ⟨m, t, rfl, rfl, by omega, ?_⟩
  have := h.2.2.2
  rw [pow_nat] at this
  omega
theorem compl_bits : ∀ m, m < 7 → ∀ t, t < 64 → t < 2 ^ m → ((2 ^ m - 1) ^^^ ((2 ^ m - 1) &&& t)) = 2 ^ m - 1 - t := by decide +kernel
/-- The complements in the order of the list. -/
noncomputable def shellL (n : Int) (xs list : List Int) : List Int := if isOrd n xs list = true then list.map (compl n) else []
theorem shellL_le {n : Int} {xs list : List Int} {b : Nat} (h : list.length ≤ b) : (shellL n xs list).length ≤ b := by
  unfold shellL; split <;> simp [h]
theorem map_snoc {f : Int → Int} {l : List Int} {k : Nat} (h : k < l.length) : (l.take k).map f ++ [f (l.getD k 0)] = (l.take (k + 1)).map f := by
  rw [take_snoc 0 h]; simp
end Go.Proofs.YtmpjajhklilleaaDoor

namespace Go.Proofs.YtmpjajhklilleaaDoor
open Go.Abs
set_option linter.unusedSimpArgs false
set_option linter.unusedVariables false

/-- The points that the generators before leave over. -/
def ptStep (g o b : Int) : Int := if szOf (iandnot .i64 b g) = 1 then ior .i64 o (iandnot .i64 b g) else o
def ptsIn (before : List Int) (g : Int) : Int := before.foldl (ptStep g) 0
def okL (l : List Int) : Prop := ∀ b ∈ l, 0 ≤ b ∧ b < 64
theorem okL_at {l : List Int} (h : okL l) {k : Nat} (hk : k < l.length) : 0 ≤ l.getD k 0 ∧ l.getD k 0 < 64 := h _ (getD_mem 0 hk)
theorem okL_take {l : List Int} (h : okL l) (k : Nat) : okL (l.take k) := fun b hb => h b (List.mem_of_mem_take hb)
theorem ptStep_lt {g o b : Int} (hg : 0 ≤ g ∧ g < 64) (ho : 0 ≤ o ∧ o < 64) (hb : 0 ≤ b ∧ b < 64) : 0 ≤ ptStep g o b ∧ ptStep g o b < 64 := by
  unfold ptStep
  split
  · exact ior_lt ho (andnot_sub hb hg).2
  · exact ho
theorem ptsIn_lt {l : List Int} {g : Int} (hl : okL l) (hg : 0 ≤ g ∧ g < 64) : 0 ≤ ptsIn l g ∧ ptsIn l g < 64 := by
  unfold ptsIn
  have : ∀ (l : List Int) (o : Int), okL l → (0 ≤ o ∧ o < 64) → 0 ≤ l.foldl (ptStep g) o ∧ l.foldl (ptStep g) o < 64 := by
    intro l
    induction l with
    | nil => intro o _ h; exact h
    | cons b l ih => intro o hl h; exact ih _ (fun x hx => hl x (by simp [hx])) (ptStep_lt hg h (hl b (by simp)))
  exact this l 0 hl (by omega)
theorem szOf_pop {s : Int} (h : 0 ≤ s ∧ s < 64) : szOf s = (popN s.toNat : Nat) := by rw [szOf, if_pos h]
/-- Every generator before has one of the points. -/
def fitsB (before : List Int) (g : Int) : Bool := before.all fun b => iand .i64 b (ptsIn before g) != 0
theorem all_no {l : List Int} {p : Int → Bool} {k : Nat} (h : k < l.length) (hp : p (l.getD k 0) = false) : l.all p = false := by
  rw [List.all_eq_false]; exact ⟨_, getD_mem 0 h, fun e => by rw [hp] at e; cases e⟩
theorem all_yes {l : List Int} {p : Int → Bool} (h : ∀ k, k < l.length → p (l.getD k 0) = true) : l.all p = true := by
  rw [List.all_eq_true]; intro x hx
  obtain ⟨i, hi, rfl⟩ := mem_getD 0 hx
  exact h i hi
/-- An order by which every generator divides by points. -/
def divAt (list : List Int) (k : Nat) : Bool := fitsB (list.take k) (list.getD k 0)
noncomputable def divP (n : Int) (xs list : List Int) : Bool := isOrd n xs list && (List.range list.length).all (divAt list)
theorem ord_ok {n : Int} {xs list : List Int} (h : isOrd n xs list = true) : okL list := fun b hb => by
  obtain ⟨hc, hp⟩ := isOrd_iff.1 h
  obtain ⟨i, hi, rfl⟩ := mem_getD 0 (hp.mem_iff.1 hb)
  exact inSet_lt (hc.2.2 i hi).1
theorem divP_no {n : Int} {xs list : List Int} {k : Nat} (h : k < list.length) (hd : divAt list k = false) : divP n xs list = false := by
  unfold divP
  rw [Bool.and_eq_false_iff]
  right
  rw [List.all_eq_false]
  exact ⟨k, by simpa using h, by simp [hd]⟩
theorem divP_yes {n : Int} {xs list : List Int} (ho : isOrd n xs list = true) (h : ∀ k, k < list.length → divAt list k = true) : divP n xs list = true := by
  unfold divP
  rw [ho, Bool.true_and, List.all_eq_true]
  exact fun k hk => h k (by simpa using hk)
theorem divP_ord {n : Int} {xs list : List Int} (h : divP n xs list = true) : isOrd n xs list = true := by
  unfold divP at h; rw [Bool.and_eq_true] at h; exact h.1
end Go.Proofs.YtmpjajhklilleaaDoor

namespace Go.Proofs.YtmpjajhklilleaaDoor
open Go.Abs
set_option linter.unusedSimpArgs false
set_option linter.unusedVariables false

theorem c_impl_IsComplex (n : Int) (xs : List Int) : AC Tryd.prog 39 [.ag [int n, ints xs]] (.im (bool (isCx n xs))) := by
  refine AC.go (rs := [.tmp 2]) T_ok mixed Tryd.func39 rfl rfl rfl (by kernel_rfl) fun hl => ?_
  simp (maxSteps := 5000000) -dsimp only [↓gp, gq, reduceCtorEq, Nat.reduceEqDiff, Nat.reduceLT, Nat.reduceLeDiff, Nat.reduceAdd, Nat.reduceMul, Nat.reduceSub, Nat.reduceBEq, Int.reduceToNat, Int.reduceLE, Int.reduceLT, Int.reduceNeg, Nat.reduceMod, sid_ne1, sid_ne2, sid_inj, sid_mod, gT, TK.isInt, TK.agg, Array.toList]
  refine askK_of (c_impl_isAntichain n xs) ?_
  simp (maxSteps := 5000000) -dsimp only [↓gp, gq, reduceCtorEq, Nat.reduceEqDiff, Nat.reduceLT, Nat.reduceLeDiff, Nat.reduceAdd, Nat.reduceMul, Nat.reduceSub, Nat.reduceBEq, Int.reduceToNat, Int.reduceLE, Int.reduceLT, Int.reduceNeg, Nat.reduceMod, sid_ne1, sid_ne2, sid_inj, sid_mod, gT, TK.isInt, TK.agg, Array.toList]
theorem u8_eq {a b : Nat} : ((a : Int) == (b : Int)) = decide (a = b) := by
  rw [Bool.eq_iff_iff, beq_iff_eq, decide_eq_true_eq]; omega
/-- The sets of the parts. -/
def facs (ps : List ByteArray) : List Int := ps.map fun p => ((setV p p.size : Nat) : Int)
theorem facs_take {ps : List ByteArray} {k : Nat} (h : k < ps.length) : facs (ps.take (k + 1)) = facs (ps.take k) ++ [((setV (ps.getD k ⟨#[]⟩) (ps.getD k ⟨#[]⟩).size : Nat) : Int)] := by
  unfold facs
  rw [take_snoc ⟨#[]⟩ h, List.map_append]; rfl
def chr (n : Nat) : ByteArray := ⟨#[UInt8.ofNat (48 + n)]⟩
/-- A text that tells a complex. -/
structure OkText (t : ByteArray) (n : Nat) (rest : ByteArray) (ps : List ByteArray) : Prop where
  size : 2 ≤ t.size ∧ t.size ≤ 1000
  pts : 1 ≤ n ∧ n ≤ 6
  b0 : byt t 0 = 48 + n
  b1 : byt t 1 = 58
  tail : t.extract 2 t.size = rest
  rsize : rest.size ≤ 1000
  full : (rest.toList == (⟨#[]⟩ : ByteArray).toList) = false
  parts : splitB rest 44 = ps
  plen : ps.length ≤ 1000
  pne : 0 < ps.length
  sets : ∀ p ∈ ps, OkSet p
  head : splitB t 58 = [chr n, rest]
  cx : cxP n (facs ps)
theorem adopt_tvvv {s : St} (d : Nat) (x y z : Value) : adoptSt s d (.tup [.im (.v x), .im (.v y), .im (.v z)]) = s.put (some d) (.tup [.v x, .v y, .v z]) := by
  unfold adoptSt
  simp [leaves_tup, leaves, addRows, adopt2, adopt1, adoptL, adopt0, leafId, St.row, setIf]
def cvRow (r : Row) (ver : Nat) (Kp : PV → Prop) : Prop := r.ver = ver ∧ match r.kind with
  | .nil => ∃ bs : List Int, [] = bs.map (fun n => PV.v (.int .u8 n)) ∧ Kp (.v (.string (bs.foldl (fun r n => r.push (UInt8.ofNat n.toNat)) ByteArray.empty)))
  | .sli _ sz _ c => sz = 1 ∧ ∃ bs : List Int, c = bs.map (fun n => PV.v (.int .u8 n)) ∧ Kp (.v (.string (bs.foldl (fun r n => r.push (UInt8.ofNat n.toNat)) ByteArray.empty)))
  | _ => False
theorem conv_own (rw : Nat → Row) (j ver : Nat) {Kp : PV → Prop} : convK T rw 45 9 (.own j ver) Kp = cvRow (rw j) ver Kp := by
  have ha : (T 45).k = .sli 5 := T45k
  have hb : (T 9).k = .str := T9k
  have he : (T 5).k = .int .u8 := T5k
  have s1 : (T 45).size = 1 := T45s
  have s2 : (T 9).size = 1 := T9s
  have s3 : (T 5).size = 1 := T5s
  unfold convK cvRow
  simp only [ha, hb, he, s1, s2, s3, slK]
  cases h : (rw j).kind <;> simp
theorem cvRow_one (ver e : Nat) (fz : Bool) (n : Int) {Kp : PV → Prop} : cvRow ⟨ver, .sli e 1 fz [.v (.int .u8 n)]⟩ ver Kp = Kp (.v (.string ([n].foldl (fun r n => r.push (UInt8.ofNat n.toNat)) ByteArray.empty))) := by
  unfold cvRow
  simp only [true_and]
  refine propext ⟨fun ⟨bs, hb, h⟩ => ?_, fun h => ⟨[n], rfl, h⟩⟩
  match bs, hb with
  | [m], hb => simp at hb; subst hb; exact h
theorem lit_u8 (n : Int) : lit [.v (.int .u8 n)] = [.v (.int .u8 n)] := rfl
theorem chr_size (n : Nat) : (chr n).size = 1 := rfl
theorem chr_at {n : Nat} (h : n ≤ 9) : ((chr n).data.toList.getD 0 0).toNat = 48 + n := by
  show (UInt8.ofNat (48 + n)).toNat = 48 + n
  simp
  omega
theorem chr_of {n : Nat} (h : n ≤ 9) : ([(48 + n : Int)].foldl (fun r n => r.push (UInt8.ofNat n.toNat)) ByteArray.empty) ++ ⟨#[]⟩ = chr n := by
  have : ∀ m : Fin 10, ([(48 + (m.val : Nat) : Int)].foldl (fun r n => r.push (UInt8.ofNat n.toNat)) ByteArray.empty) ++ ⟨#[]⟩ = chr m.val := by decide +kernel
  exact this ⟨n, by omega⟩
theorem c_spec_FormatInt {n : Nat} (h1 : 1 ≤ n) (h9 : n ≤ 9) : AC Tryd.prog 17 [int n] (.im (str (chr n))) := by
  refine AC.go (rs := [.tmp 2]) T_ok mixed Tryd.func17 rfl rfl rfl (by kernel_rfl) fun hl => ?_
  have e0 : ((n : Int) == 0) = false := beq_eq_false_iff_ne.2 (by omega)
  simp (maxSteps := 5000000) -dsimp only [↓gp, gq, reduceCtorEq, Nat.reduceEqDiff, Nat.reduceLT, Nat.reduceLeDiff, Nat.reduceAdd, Nat.reduceMul, Nat.reduceSub, Nat.reduceBEq, Int.reduceToNat, Int.reduceLE, Int.reduceLT, Int.reduceNeg, Nat.reduceMod, sid_ne1, sid_ne2, sid_inj, sid_mod, gT, TK.isInt, TK.agg, Array.toList, e0]
  refine loop_of (fun (za : Nat × ByteArray) s => match za with | (m, o) => s.sl 0 = int m ∧ s.sl 3 = bool false ∧ s.sl 4 = str o ∧ ((m = n ∧ o = ⟨#[]⟩) ∨ (m = 0 ∧ o = chr n))) (fun (m, o) => m) ((n, ⟨#[]⟩)) (by refine ⟨?_, ?_, ?_, Or.inl ⟨rfl, rfl⟩⟩ <;> (first | (simp (maxSteps := 5000000) -dsimp only [gr, Nat.reduceEqDiff, Nat.reduceLT, Nat.reduceAdd, Nat.reduceMod, Nat.reduceBEq, sid_mod, sid_ne1, sid_ne2, sid_inj, decide_eq_false (show ¬ ((n : Int) < 0) by omega)]; first | done | rfl | (simp; done)) | assumption | rfl)) ?_
  intro (m, o) sa ⟨h0a, h3a, h4a, hIa⟩
  rcases hIa with ⟨rfl, rfl⟩ | ⟨rfl, rfl⟩
  · have ht : ((m : Int)).tmod 10 = (m : Int) := Int.tmod_eq_of_lt (by omega) (by omega)
    have hw : IntKind.i64.wrap (48 + (m : Int)) = 48 + (m : Int) := wrap_id (by omega) (by omega)
    have hw8 : IntKind.u8.wrap (48 + (m : Int)) = 48 + (m : Int) := by
      simp [IntKind.wrap, IntKind.bits, IntKind.signed]
      omega
    have hq : ((m : Int)).tdiv 10 = 0 := Int.tdiv_eq_zero_of_lt (by omega) (by omega)
    have hc := chr_of h9
    simp (maxSteps := 5000000) -dsimp only [↓gp, gq, reduceCtorEq, Nat.reduceEqDiff, Nat.reduceLT, Nat.reduceLeDiff, Nat.reduceAdd, Nat.reduceMul, Nat.reduceSub, Nat.reduceBEq, Int.reduceToNat, Int.reduceLE, Int.reduceLT, Int.reduceNeg, Nat.reduceMod, sid_ne1, sid_ne2, sid_inj, sid_mod, gT, TK.isInt, TK.agg, Array.toList, h0a, h3a, h4a, conv_own, cvRow_one, lit_u8, ht, hw, hw8, hq, hc]
    refine ⟨fun _ => ⟨by decide, fun h => absurd h (by omega), fun _ => ⟨?_, by decide, again_of ((0, chr m)) (by refine ⟨?_, ?_, ?_, Or.inr ⟨rfl, rfl⟩⟩ <;> (first | (simp (maxSteps := 5000000) -dsimp only [gr, Nat.reduceEqDiff, Nat.reduceLT, Nat.reduceAdd, Nat.reduceMod, Nat.reduceBEq, sid_mod, sid_ne1, sid_ne2, sid_inj, h0a, h3a, h4a, ht, hw, hw8, hq, hc]; first | done | rfl | (simp; done)) | assumption | rfl)) (by first | omega | (simp only; omega) | (dsimp only; omega) | (show _ < _; simp; omega))⟩⟩, fun h => ?_⟩
    · show 1 + 0 ≤ 9223372036854775807
      omega
    · simp at h
      omega
  · simp (maxSteps := 5000000) -dsimp only [↓gp, gq, reduceCtorEq, Nat.reduceEqDiff, Nat.reduceLT, Nat.reduceLeDiff, Nat.reduceAdd, Nat.reduceMul, Nat.reduceSub, Nat.reduceBEq, Int.reduceToNat, Int.reduceLE, Int.reduceLT, Int.reduceNeg, Nat.reduceMod, sid_ne1, sid_ne2, sid_inj, sid_mod, gT, TK.isInt, TK.agg, Array.toList, h0a, h3a, h4a, show (((0 : Nat) : Int) != 0) = false from rfl]
end Go.Proofs.YtmpjajhklilleaaDoor

namespace Go.Proofs.YtmpjajhklilleaaDoor
open Go.Abs
set_option linter.unusedSimpArgs false
set_option linter.unusedVariables false

theorem push_fold : ∀ (l : List UInt8) (a : ByteArray), ((l.map fun x => (x.toNat : Int)).foldl (fun r n => r.push (UInt8.ofNat n.toNat)) a) = ⟨(a.data.toList ++ l).toArray⟩ := by
  intro l
  induction l with
  | nil => intro a; simp
  | cons x l ih =>
    intro a
    rw [List.map_cons, List.foldl_cons, ih]
    have : UInt8.ofNat ((x.toNat : Int)).toNat = x := by simp
    rw [this]
    congr 1
    simp [ByteArray.push]
theorem cvRow_strB (ver e : Nat) (fz : Bool) (b : ByteArray) {Kp : PV → Prop} : cvRow ⟨ver, .sli e 1 fz (strB b)⟩ ver Kp = Kp (.v (.string b)) := by
  unfold cvRow
  simp only [true_and]
  have hb : strB b = (b.data.toList.map fun x => (x.toNat : Int)).map (fun n => PV.v (.int .u8 n)) := by simp [strB]
  have hf := push_fold b.data.toList ByteArray.empty
  have hf : ((b.data.toList.map fun x => (x.toNat : Int)).foldl (fun r n => r.push (UInt8.ofNat n.toNat)) ByteArray.empty) = b := by
    rw [hf]; show (⟨(([] : List UInt8) ++ b.data.toList).toArray⟩ : ByteArray) = b; simp
  refine propext ⟨fun ⟨bs, h1, h2⟩ => ?_, fun h => ⟨_, hb, by rw [hf]; exact h⟩⟩
  rw [hb] at h1
  have : b.data.toList.map (fun x => (x.toNat : Int)) = bs := (List.map_inj_right (fun x y h => by simpa using h)).1 h1
  rw [← this, hf] at h2
  exact h2
theorem strB_append (a b : ByteArray) : strB a ++ strB b = strB (a ++ b) := by
  unfold strB
  rw [← List.map_append, ByteArray.data_append, Array.toList_append]
theorem strB_nil : strB ⟨#[]⟩ = [] := rfl
/-- Texts joined, on the way. -/
def joinP (l : List ByteArray) (sep : ByteArray) : Nat → ByteArray | 0 => ⟨#[]⟩ | i + 1 => (if i = 0 then joinP l sep i else joinP l sep i ++ sep) ++ l.getD i ⟨#[]⟩
theorem c_spec_Join (l : List ByteArray) (sep : ByteArray) (hN : l.length ≤ 1000000000000) (hb : ∀ i, i ≤ l.length → (joinP l sep i).size + sep.size ≤ 70000000000000) : AC Tryd.prog 18 [.sl false 1 (sL l), str sep] (.im (str (joinP l sep l.length))) := by
  refine AC.go (rs := [.tmp 4]) T_ok mixed Tryd.func18 rfl rfl rfl (by kernel_rfl) fun hl => ?_
  simp only [lens_cons, lens_nil, and_true, lens2_ag2, lens1_v, lens1_iL, lens2_iL, lens2_v, true_and] at hl
  simp (maxSteps := 5000000) -dsimp only [↓gp, gq, reduceCtorEq, Nat.reduceEqDiff, Nat.reduceLT, Nat.reduceLeDiff, Nat.reduceAdd, Nat.reduceMul, Nat.reduceSub, Nat.reduceBEq, Int.reduceToNat, Int.reduceLE, Int.reduceLT, Int.reduceNeg, Nat.reduceMod, sid_ne1, sid_ne2, sid_inj, sid_mod, gT, TK.isInt, TK.agg, Array.toList]
  refine loop_of (fun (za : Nat × Nat) s => match za with | (i, v) => s.sl 0 = .sl false 1 (sL l) ∧ s.sl 1 = str sep ∧ s.sl 5 = .own 7 v ∧ s.rw 7 = ⟨v, .sli 5 1 false (strB (joinP l sep i))⟩ ∧ s.sl 6 = int i ∧ (i ≤ l.length)) (fun (i, v) => l.length - i) ((0, 1)) (by refine ⟨?_, ?_, ?_, ?_, ?_, by omega⟩ <;> (first | (simp (maxSteps := 5000000) -dsimp only [gr, Nat.reduceEqDiff, Nat.reduceLT, Nat.reduceAdd, Nat.reduceMod, Nat.reduceBEq, sid_mod, sid_ne1, sid_ne2, sid_inj, joinP, strB_nil]; first | done | rfl | (simp; done)) | assumption | rfl)) ?_
  intro (i, v) sa ⟨h0a, h1a, h5a, r7a, h6a, hIa⟩
  have hsl : (sL l).length = l.length := by simp [sL]
  have hbi := hb i hIa
  simp (maxSteps := 5000000) -dsimp only [↓gp, gq, reduceCtorEq, Nat.reduceEqDiff, Nat.reduceLT, Nat.reduceLeDiff, Nat.reduceAdd, Nat.reduceMul, Nat.reduceSub, Nat.reduceBEq, Int.reduceToNat, Int.reduceLE, Int.reduceLT, Int.reduceNeg, Nat.reduceMod, sid_ne1, sid_ne2, sid_inj, sid_mod, gT, TK.isInt, TK.agg, Array.toList, h0a, h1a, h5a, r7a, h6a, hsl, conv_own, cvRow_strB]
  refine ⟨fun h => ?_, fun h => ?_⟩
  · have hb1 := hb (i + 1) h
    have hw := wrap_nat h (show l.length ≤ 9223372036854775807 by omega)
    have hse := strB_length sep
    have hsj := strB_length (joinP l sep i)
    refine ⟨fun h0 => ?_, fun h0 => ?_⟩
    · have e : joinP l sep (i + 1) = (joinP l sep i ++ sep) ++ l.getD i ⟨#[]⟩ := by rw [joinP, if_neg (by omega)]
      rw [e, ByteArray.size_append, ByteArray.size_append] at hb1
      have e2 : strB (joinP l sep i) ++ strB sep ++ strB (l.getD i ⟨#[]⟩) = strB (joinP l sep (i + 1)) := by rw [strB_append, strB_append, e]
      exact ⟨by omega, h, h, by rw [List.length_append]; omega, again_of ((i + 1, v + 1 + 1)) (by refine ⟨?_, ?_, ?_, ?_, ?_, by dsimp only; omega⟩ <;> (first | (simp (maxSteps := 5000000) -dsimp only [gr, Nat.reduceEqDiff, Nat.reduceLT, Nat.reduceAdd, Nat.reduceMod, Nat.reduceBEq, sid_mod, sid_ne1, sid_ne2, sid_inj, h0a, h1a, h5a, r7a, h6a, hw, e2]; first | done | rfl | (simp; done)) | assumption | rfl)) (by first | omega | (simp only; omega) | (dsimp only; omega) | (show _ < _; simp; omega))⟩
    · have e : joinP l sep (i + 1) = joinP l sep i ++ l.getD i ⟨#[]⟩ := by rw [joinP, if_pos (by omega)]
      rw [e, ByteArray.size_append] at hb1
      have e2 : strB (joinP l sep i) ++ strB (l.getD i ⟨#[]⟩) = strB (joinP l sep (i + 1)) := by rw [strB_append, e]
      exact ⟨h, h, by omega, again_of ((i + 1, v + 1)) (by refine ⟨?_, ?_, ?_, ?_, ?_, by dsimp only; omega⟩ <;> (first | (simp (maxSteps := 5000000) -dsimp only [gr, Nat.reduceEqDiff, Nat.reduceLT, Nat.reduceAdd, Nat.reduceMod, Nat.reduceBEq, sid_mod, sid_ne1, sid_ne2, sid_inj, h0a, h1a, h5a, r7a, h6a, hw, e2]; first | done | rfl | (simp; done)) | assumption | rfl)) (by first | omega | (simp only; omega) | (dsimp only; omega) | (show _ < _; simp; omega))⟩
  · have : i = l.length := by omega
    rw [this]
end Go.Proofs.YtmpjajhklilleaaDoor

namespace Go.Proofs.YtmpjajhklilleaaDoor
open Go.Abs
set_option linter.unusedSimpArgs false
set_option linter.unusedVariables false

theorem bit_i64 : ∀ s, s < 64 → ∀ i, i < 6 → (iand .i64 (ishr .i64 (s : Nat) (i : Nat)) 1 == 1) = s.testBit i := by
  have h : ((List.range 64).all fun s => (List.range 6).all fun i => (iand .i64 (ishr .i64 (s : Nat) (i : Nat)) 1 == 1) == s.testBit i) = true := by decide +kernel
  intro s hs i hi
  have := List.all_eq_true.1 (List.all_eq_true.1 h s (List.mem_range.2 hs)) i (List.mem_range.2 hi)
  simpa using this
/-- The points of a set, as text. -/
def ptsP (s i : Nat) : List Nat := (List.range i).filter s.testBit
def txP (s i : Nat) : ByteArray := ⟨((ptsP s i).map fun j => UInt8.ofNat (97 + j)).toArray⟩
def setTx (s : Nat) : ByteArray := if s = 0 then ⟨#[45]⟩ else txP s 6
def setTI (s : Int) : ByteArray := if 0 ≤ s ∧ s < 64 then setTx s.toNat else ⟨#[]⟩
theorem ptsP_yes {s i : Nat} (h : s.testBit i = true) : ptsP s (i + 1) = ptsP s i ++ [i] := by unfold ptsP; rw [List.range_succ, List.filter_append]; simp [h]
theorem ptsP_no {s i : Nat} (h : s.testBit i = false) : ptsP s (i + 1) = ptsP s i := by unfold ptsP; rw [List.range_succ, List.filter_append]; simp [h]
theorem txP_yes {s i : Nat} (h : s.testBit i = true) : txP s (i + 1) = txP s i ++ ⟨#[UInt8.ofNat (97 + i)]⟩ := by
  unfold txP; rw [ptsP_yes h]
  refine ByteArray.ext ?_
  simp
theorem txP_no {s i : Nat} (h : s.testBit i = false) : txP s (i + 1) = txP s i := by unfold txP; rw [ptsP_no h]
theorem ptsP_len (s i : Nat) : (ptsP s i).length ≤ i := by
  have := List.length_filter_le s.testBit (List.range i)
  rwa [List.length_range] at this
theorem txP_size (s i : Nat) : (txP s i).size ≤ i := by
  have := ptsP_len s i
  show ((ptsP s i).map _).toArray.size ≤ i
  simpa using this
theorem abc_cut : ∀ i, i < 6 → (⟨#[97, 98, 99, 100, 101, 102]⟩ : ByteArray).extract i (i + 1) = ⟨#[UInt8.ofNat (97 + i)]⟩ := by decide +kernel
theorem c_spec_SetText (s : Int) : AC Tryd.prog 38 [int s] (.im (str (setTI s))) := by
  refine AC.go (rs := [.tmp 2]) T_ok mixed Tryd.func38 rfl rfl rfl (by kernel_rfl) fun hl => ?_
  simp (maxSteps := 5000000) -dsimp only [↓gp, gq, reduceCtorEq, Nat.reduceEqDiff, Nat.reduceLT, Nat.reduceLeDiff, Nat.reduceAdd, Nat.reduceMul, Nat.reduceSub, Nat.reduceBEq, Int.reduceToNat, Int.reduceLE, Int.reduceLT, Int.reduceNeg, Nat.reduceMod, sid_ne1, sid_ne2, sid_inj, sid_mod, gT, TK.isInt, TK.agg, Array.toList]
  refine askK_of (c_spec_l1In _ _ _) ?_
  simp (maxSteps := 5000000) -dsimp only [↓gp, gq, reduceCtorEq, Nat.reduceEqDiff, Nat.reduceLT, Nat.reduceLeDiff, Nat.reduceAdd, Nat.reduceMul, Nat.reduceSub, Nat.reduceBEq, Int.reduceToNat, Int.reduceLE, Int.reduceLT, Int.reduceNeg, Nat.reduceMod, sid_ne1, sid_ne2, sid_inj, sid_mod, gT, TK.isInt, TK.agg, Array.toList]
  unfold setTI
  refine ⟨fun h => ?_, fun h => ?_⟩
  · rw [if_neg (fun hc => by simp at h; omega)]
  · have h : 0 ≤ s ∧ s ≤ 63 := by simpa using h
    rw [if_pos ⟨h.1, by omega⟩]
    obtain ⟨u, rfl⟩ : ∃ u : Nat, s = u := ⟨s.toNat, by omega⟩
    rw [Int.toNat_natCast]
    have hu : u < 64 := by omega
    refine ⟨fun h0 => ?_, fun h0 => ?_⟩
    · have : u = 0 := by
        have : (u : Int) = 0 := by simpa using h0
        omega
      rw [this]; rfl
    · have hne : u ≠ 0 := fun e => by rw [e] at h0; simp at h0
      have hse : setTx u = txP u 6 := if_neg hne
      rw [hse]
      refine loop_of (fun (i : Nat) s => s.sl 0 = int u ∧ s.sl 3 = str (txP u i) ∧ s.sl 4 = int i ∧ (i ≤ 6)) (fun i => 6 - i) (0) (by refine ⟨?_, ?_, ?_, by omega⟩ <;> (first | (simp (maxSteps := 5000000) -dsimp only [gr, Nat.reduceEqDiff, Nat.reduceLT, Nat.reduceAdd, Nat.reduceMod, Nat.reduceBEq, sid_mod, sid_ne1, sid_ne2, sid_inj]; first | done | rfl | (simp; done)) | assumption | rfl)) ?_
      intro i sa ⟨h0a, h3a, h4a, hIa⟩
      have hun : IntKind.u64.wrap (i : Int) = (i : Int) := uwrap_id (by omega)
      by_cases hi : i < 6
      · have hbit := bit_i64 u hu i hi
        have hcut := abc_cut i hi
        have hw := wrap_nat hi (by omega)
        simp (maxSteps := 5000000) -dsimp only [↓gp, gq, reduceCtorEq, Nat.reduceEqDiff, Nat.reduceLT, Nat.reduceLeDiff, Nat.reduceAdd, Nat.reduceMul, Nat.reduceSub, Nat.reduceBEq, Int.reduceToNat, Int.reduceLE, Int.reduceLT, Int.reduceNeg, Nat.reduceMod, sid_ne1, sid_ne2, sid_inj, sid_mod, gT, TK.isInt, TK.agg, Array.toList, h0a, h3a, h4a, hun, hbit, hw, Int.toNat_natCast, hcut]
        have hsz := txP_size u i
        refine ⟨fun _ => ⟨fun hb => ⟨by omega, by show i + 1 ≤ 6; omega, by show (txP u i).size + 1 ≤ 9223372036854775807; omega, ?_⟩, fun hb => ?_⟩, fun h => absurd (by omega) h⟩
        · have e := txP_yes hb
          exact again_of (i + 1) (by refine ⟨?_, ?_, ?_, by omega⟩ <;> (first | (simp (maxSteps := 5000000) -dsimp only [gr, Nat.reduceEqDiff, Nat.reduceLT, Nat.reduceAdd, Nat.reduceMod, Nat.reduceBEq, sid_mod, sid_ne1, sid_ne2, sid_inj, h0a, h3a, h4a, hw, e]; first | done | rfl | (simp; done)) | assumption | rfl)) (by first | omega | (simp only; omega) | (dsimp only; omega) | (show _ < _; simp; omega))
        · have e := txP_no hb
          exact again_of (i + 1) (by refine ⟨?_, ?_, ?_, by omega⟩ <;> (first | (simp (maxSteps := 5000000) -dsimp only [gr, Nat.reduceEqDiff, Nat.reduceLT, Nat.reduceAdd, Nat.reduceMod, Nat.reduceBEq, sid_mod, sid_ne1, sid_ne2, sid_inj, h0a, h3a, h4a, hw, e]; first | done | rfl | (simp; done)) | assumption | rfl)) (by first | omega | (simp only; omega) | (dsimp only; omega) | (show _ < _; simp; omega))
      · simp (maxSteps := 5000000) -dsimp only [↓gp, gq, reduceCtorEq, Nat.reduceEqDiff, Nat.reduceLT, Nat.reduceLeDiff, Nat.reduceAdd, Nat.reduceMul, Nat.reduceSub, Nat.reduceBEq, Int.reduceToNat, Int.reduceLE, Int.reduceLT, Int.reduceNeg, Nat.reduceMod, sid_ne1, sid_ne2, sid_inj, sid_mod, gT, TK.isInt, TK.agg, Array.toList, h0a, h3a, h4a, hun]
        refine ⟨fun h => absurd h (by omega), fun _ => ?_⟩
        have : i = 6 := by omega
        rw [this]
theorem c_impl_PointsOf (u : Nat) (hs : u < 64) : AC Tryd.prog 85 [int u] (.fr 3 1 (iL (ofN (ptsP u 6)))) := by
  refine AC.go (rs := [.tmp 2]) T_ok mixed Tryd.func85 rfl rfl rfl (by kernel_rfl) fun hl => ?_
  simp (maxSteps := 5000000) -dsimp only [↓gp, gq, reduceCtorEq, Nat.reduceEqDiff, Nat.reduceLT, Nat.reduceLeDiff, Nat.reduceAdd, Nat.reduceMul, Nat.reduceSub, Nat.reduceBEq, Int.reduceToNat, Int.reduceLE, Int.reduceLT, Int.reduceNeg, Nat.reduceMod, sid_ne1, sid_ne2, sid_inj, sid_mod, gT, TK.isInt, TK.agg, Array.toList]
  refine askK_of (c_impl_IsSet 6 u) ?_
  have hin : inSet 6 (u : Int) = true := by unfold inSet; exact decide_eq_true ⟨by omega, by omega, by omega, by simpa using (by omega : (u : Int) < 64)⟩
  rw [hin]
  simp (maxSteps := 5000000) -dsimp only [↓gp, gq, reduceCtorEq, Nat.reduceEqDiff, Nat.reduceLT, Nat.reduceLeDiff, Nat.reduceAdd, Nat.reduceMul, Nat.reduceSub, Nat.reduceBEq, Int.reduceToNat, Int.reduceLE, Int.reduceLT, Int.reduceNeg, Nat.reduceMod, sid_ne1, sid_ne2, sid_inj, sid_mod, gT, TK.isInt, TK.agg, Array.toList]
  refine loop_of (fun (za : Nat × Nat) s => match za with | (i, v) => s.sl 0 = int u ∧ s.sl 3 = .own 3 v ∧ s.rw 3 = ⟨v, .sli 3 1 false (iL (ofN (ptsP u i)))⟩ ∧ s.sl 4 = int i ∧ (i ≤ 6)) (fun (i, v) => 6 - i) ((0, 1)) (by refine ⟨?_, ?_, ?_, ?_, by omega⟩ <;> (first | (simp (maxSteps := 5000000) -dsimp only [gr, Nat.reduceEqDiff, Nat.reduceLT, Nat.reduceAdd, Nat.reduceMod, Nat.reduceBEq, sid_mod, sid_ne1, sid_ne2, sid_inj]; first | done | rfl | (simp; done)) | assumption | rfl)) ?_
  intro (i, v) sa ⟨h0a, h3a, r3a, h4a, hIa⟩
  have hpl := ptsP_len u i
  have hun : IntKind.u64.wrap (i : Int) = (i : Int) := uwrap_id (by omega)
  by_cases hi : i < 6
  · have hbit := bit_i64 u hs i hi
    simp (maxSteps := 5000000) -dsimp only [↓gp, gq, reduceCtorEq, Nat.reduceEqDiff, Nat.reduceLT, Nat.reduceLeDiff, Nat.reduceAdd, Nat.reduceMul, Nat.reduceSub, Nat.reduceBEq, Int.reduceToNat, Int.reduceLE, Int.reduceLT, Int.reduceNeg, Nat.reduceMod, sid_ne1, sid_ne2, sid_inj, sid_mod, gT, TK.isInt, TK.agg, Array.toList, h0a, h3a, r3a, h4a, hun, hbit]
    refine ⟨fun _ => ⟨fun hb => ⟨by rw [ofN_length]; omega, ?_⟩, fun hb => ?_⟩, fun h => absurd h (by omega)⟩
    · have e : ofN (ptsP u i) ++ [(i : Int)] = ofN (ptsP u (i + 1)) := by rw [ptsP_yes hb, ofN_append, ofN_one]
      exact again_of ((i + 1, v + 1)) (by refine ⟨?_, ?_, ?_, ?_, by dsimp only; omega⟩ <;> (first | (simp (maxSteps := 5000000) -dsimp only [gr, Nat.reduceEqDiff, Nat.reduceLT, Nat.reduceAdd, Nat.reduceMod, Nat.reduceBEq, sid_mod, sid_ne1, sid_ne2, sid_inj, h0a, h3a, r3a, h4a, wrap_nat hi (by omega), e]; first | done | rfl | (simp; done)) | assumption | rfl)) (by first | omega | (simp only; omega) | (dsimp only; omega) | (show _ < _; simp; omega))
    · have e := ptsP_no hb
      exact again_of ((i + 1, v)) (by refine ⟨?_, ?_, ?_, ?_, by dsimp only; omega⟩ <;> (first | (simp (maxSteps := 5000000) -dsimp only [gr, Nat.reduceEqDiff, Nat.reduceLT, Nat.reduceAdd, Nat.reduceMod, Nat.reduceBEq, sid_mod, sid_ne1, sid_ne2, sid_inj, h0a, h3a, r3a, h4a, wrap_nat hi (by omega), e]; first | done | rfl | (simp; done)) | assumption | rfl)) (by first | omega | (simp only; omega) | (dsimp only; omega) | (show _ < _; simp; omega))
  · simp (maxSteps := 5000000) -dsimp only [↓gp, gq, reduceCtorEq, Nat.reduceEqDiff, Nat.reduceLT, Nat.reduceLeDiff, Nat.reduceAdd, Nat.reduceMul, Nat.reduceSub, Nat.reduceBEq, Int.reduceToNat, Int.reduceLE, Int.reduceLT, Int.reduceNeg, Nat.reduceMod, sid_ne1, sid_ne2, sid_inj, sid_mod, gT, TK.isInt, TK.agg, Array.toList, h0a, h3a, r3a, h4a, hun]
    refine ⟨fun h => absurd h (by omega), fun _ => ?_⟩
    have : i = 6 := by omega
    rw [this]
/-- The points' letters, one by one. -/
def lets (l : List Nat) : ByteArray := ⟨(l.map fun j => UInt8.ofNat (97 + j)).toArray⟩
theorem strB_lets (l : List Nat) (i : Nat) (h : i < 6) : strB (lets l) ++ [PV.v (.int .u8 (97 + i : Nat))] = strB (lets (l ++ [i])) := by
  unfold strB lets
  have : (UInt8.ofNat (97 + i)).toNat = 97 + i := by simp; omega
  simp only [List.map_append, List.map_cons, List.map_nil, List.toList_toArray, this]
theorem c_impl_SetText (s : Int) : AC Tryd.prog 69 [int s] (.im (str (setTI s))) := by
  refine AC.go (rs := [.tmp 2]) T_ok mixed Tryd.func69 rfl rfl rfl (by kernel_rfl) fun hl => ?_
  simp (maxSteps := 5000000) -dsimp only [↓gp, gq, reduceCtorEq, Nat.reduceEqDiff, Nat.reduceLT, Nat.reduceLeDiff, Nat.reduceAdd, Nat.reduceMul, Nat.reduceSub, Nat.reduceBEq, Int.reduceToNat, Int.reduceLE, Int.reduceLT, Int.reduceNeg, Nat.reduceMod, sid_ne1, sid_ne2, sid_inj, sid_mod, gT, TK.isInt, TK.agg, Array.toList]
  refine askK_of (c_impl_IsSet 6 s) ?_
  have hin : inSet 6 s = decide (0 ≤ s ∧ s < 64) := by
    unfold inSet
    refine decide_eq_decide.2 ⟨fun h => ⟨h.2.2.1, by simpa using h.2.2.2⟩, fun h => ⟨by omega, by omega, h.1, by simpa using h.2⟩⟩
  rw [hin]
  simp (maxSteps := 5000000) -dsimp only [↓gp, gq, reduceCtorEq, Nat.reduceEqDiff, Nat.reduceLT, Nat.reduceLeDiff, Nat.reduceAdd, Nat.reduceMul, Nat.reduceSub, Nat.reduceBEq, Int.reduceToNat, Int.reduceLE, Int.reduceLT, Int.reduceNeg, Nat.reduceMod, sid_ne1, sid_ne2, sid_inj, sid_mod, gT, TK.isInt, TK.agg, Array.toList]
  unfold setTI
  refine ⟨fun h => ?_, fun h => ?_⟩
  · rw [if_neg (fun hc => by rw [decide_eq_true hc] at h; cases h)]
  · have h : 0 ≤ s ∧ s < 64 := by simpa using h
    rw [if_pos h]
    obtain ⟨u, rfl⟩ : ∃ u : Nat, s = u := ⟨s.toNat, by omega⟩
    rw [Int.toNat_natCast]
    have hu : u < 64 := by omega
    refine ⟨fun h0 => ?_, fun h0 => ?_⟩
    · have : u = 0 := by
        have : (u : Int) = 0 := by simpa using h0
        omega
      rw [this]; rfl
    · have hne : u ≠ 0 := fun e => by rw [e] at h0; simp at h0
      have hse : setTx u = lets (ptsP u 6) := if_neg hne
      rw [hse]
      refine ⟨by decide, askK_of (c_impl_PointsOf u hu) ?_⟩
      simp (maxSteps := 5000000) -dsimp only [↓gp, gq, reduceCtorEq, Nat.reduceEqDiff, Nat.reduceLT, Nat.reduceLeDiff, Nat.reduceAdd, Nat.reduceMul, Nat.reduceSub, Nat.reduceBEq, Int.reduceToNat, Int.reduceLE, Int.reduceLT, Int.reduceNeg, Nat.reduceMod, sid_ne1, sid_ne2, sid_inj, sid_mod, gT, TK.isInt, TK.agg, Array.toList, ofN_length]
      have hpl := ptsP_len u 6
      have hpm : ∀ k, k < (ptsP u 6).length → (ptsP u 6).getD k 0 < 6 := fun k hk => List.mem_range.1 (List.mem_filter.1 (getD_mem 0 hk)).1
      generalize ptsP u 6 = l at *
      have hz0 : lets (l.take 0) = ⟨#[]⟩ := rfl
      refine loop_of (fun (za : Nat × Nat) s => match za with | (k, v) => s.sl 3 = .own 11 v ∧ s.rw 11 = ⟨v, .sli 5 1 false (strB (lets (l.take k)))⟩ ∧ s.sl 13 = .own 13 1 ∧ s.rw 13 = ⟨1, .sli 3 1 false (iL (ofN l))⟩ ∧ s.sl 14 = int l.length ∧ s.sl 15 = int k ∧ (k ≤ l.length)) (fun (k, v) => l.length - k) ((0, 1)) (by refine ⟨?_, ?_, ?_, ?_, ?_, ?_, by omega⟩ <;> (first | (simp (maxSteps := 5000000) -dsimp only [gr, Nat.reduceEqDiff, Nat.reduceLT, Nat.reduceAdd, Nat.reduceMod, Nat.reduceBEq, sid_mod, sid_ne1, sid_ne2, sid_inj, hz0, strB_nil, List.replicate]; first | done | rfl | (simp; done)) | assumption | rfl)) ?_
      intro (k, v) sa ⟨h3a, r11a, h13a, r13a, h14a, h15a, hIa⟩
      have hlen : (strB (lets (l.take k))).length ≤ 6 := by rw [strB_length]; show ((l.take k).map _).toArray.size ≤ 6; simp; omega
      by_cases hk : k < l.length
      · have hge : (ofN l).getD k 0 = ((l.getD k 0 : Nat) : Int) := ofN_getD hk
        have hm := hpm k hk
        have hw := wrap_nat hk (by omega)
        have hw1 : IntKind.i64.wrap (97 + ((l.getD k 0 : Nat) : Int)) = ((97 + l.getD k 0 : Nat) : Int) := by rw [wrap_id (by omega) (by omega)]; rfl
        have hw8 : IntKind.u8.wrap ((97 + l.getD k 0 : Nat) : Int) = ((97 + l.getD k 0 : Nat) : Int) := by
          generalize l.getD k 0 = x at hm
          simp [IntKind.wrap, IntKind.bits, IntKind.signed]
          omega
        have e : strB (lets (l.take k)) ++ [PV.v (.int .u8 (97 + l.getD k 0 : Nat))] = strB (lets (l.take (k + 1))) := by rw [strB_lets _ _ hm, take_snoc 0 hk]
        simp (maxSteps := 5000000) -dsimp only [↓gp, gq, reduceCtorEq, Nat.reduceEqDiff, Nat.reduceLT, Nat.reduceLeDiff, Nat.reduceAdd, Nat.reduceMul, Nat.reduceSub, Nat.reduceBEq, Int.reduceToNat, Int.reduceLE, Int.reduceLT, Int.reduceNeg, Nat.reduceMod, sid_ne1, sid_ne2, sid_inj, sid_mod, gT, TK.isInt, TK.agg, Array.toList, h3a, r11a, h13a, r13a, h14a, h15a, ofN_length, hge, hw1, hw8, lit_u8, conv_own, cvRow_strB]
        refine ⟨fun _ => ⟨hk, hk, ?_, by omega, again_of ((k + 1, v + 1)) (by refine ⟨?_, ?_, ?_, ?_, ?_, ?_, by dsimp only; omega⟩ <;> (first | (simp (maxSteps := 5000000) -dsimp only [gr, Nat.reduceEqDiff, Nat.reduceLT, Nat.reduceAdd, Nat.reduceMod, Nat.reduceBEq, sid_mod, sid_ne1, sid_ne2, sid_inj, h3a, r11a, h13a, r13a, h14a, h15a, hw, e]; first | done | rfl | (simp; done)) | assumption | rfl)) (by first | omega | (simp only; omega) | (dsimp only; omega) | (show _ < _; simp; omega))⟩, fun h => absurd hk h⟩
        intro p hp
        rw [List.mem_singleton.1 hp]; rfl
      · simp (maxSteps := 5000000) -dsimp only [↓gp, gq, reduceCtorEq, Nat.reduceEqDiff, Nat.reduceLT, Nat.reduceLeDiff, Nat.reduceAdd, Nat.reduceMul, Nat.reduceSub, Nat.reduceBEq, Int.reduceToNat, Int.reduceLE, Int.reduceLT, Int.reduceNeg, Nat.reduceMod, sid_ne1, sid_ne2, sid_inj, sid_mod, gT, TK.isInt, TK.agg, Array.toList, h3a, r11a, h13a, r13a, h14a, h15a, ofN_length, conv_own, cvRow_strB]
        refine ⟨fun h => absurd h hk, fun _ => ?_⟩
        rw [List.take_of_length_le (by omega)]
end Go.Proofs.YtmpjajhklilleaaDoor
