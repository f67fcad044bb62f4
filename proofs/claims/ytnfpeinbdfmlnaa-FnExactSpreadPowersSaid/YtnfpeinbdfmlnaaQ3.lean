/- DERIVED by an AI agent. -/
import Derived.Test.YtnfpeinbdfmlnaaQ1
import Derived.Test.YtnfpeinbdfmlnaaQ2
import Derived.Test.YtnfpeinbdfmlnaaP1
namespace Go.Proofs.Ytnfpeinbdfmlnaa
open Go.Abs
set_option linter.unusedSimpArgs false
set_option linter.unusedVariables false
def ok19 (x : List (List Int)) (k : Nat) : Prop := isPow (x.getD k []) = true ∧ (∀ i, i < k → div3 (x.getD i []) (x.getD k []) = false ∧ div3 (x.getD k []) (x.getD i []) = false) ∧ (0 < k → lessL (x.getD k []) (x.getD (k - 1) []) = true)
open Classical in
noncomputable def p19 (x : List (List Int)) : Bool := decide ((∀ k, k < x.length → ok19 x k) ∧ x.length ≤ 5)
open Classical in
theorem p19_no {x : List (List Int)} {k : Nat} (h : k < x.length) (hn : ¬ ok19 x k) : p19 x = false := decide_eq_false fun hh => hn (hh.1 k h)
open Classical in
theorem p19_yes {x : List (List Int)} (h : (∀ k, k < x.length → ok19 x k) ∧ x.length ≤ 5) : p19 x = true := decide_eq_true h
open Classical in
theorem p19_not {x : List (List Int)} (h : ¬ ((∀ k, k < x.length → ok19 x k) ∧ x.length ≤ 5)) : p19 x = false := decide_eq_false h
theorem isPow_3 {xs : List Int} (h : isPow xs = true) : xs.length = 3 := by
  simp only [isPow, Bool.and_eq_true] at h
  simpa using h.1
theorem c_spec_ArePowers (x : List (List Int)) : AC Try.prog 58 [.ag [int2 x]] (.im (bool (p19 x))) := by
  refine AC.go (rs := [.tmp 2]) T_ok mixed Try.func58 rfl rfl rfl (by kernel_rfl) fun hl => ?_
  simp only [lens_cons, lens_nil, and_true, lens2, List.mem_singleton, forall_eq, lens1_iLL] at hl
  simp (maxSteps := 5000000) -dsimp only [↓gp, gq, reduceCtorEq, Nat.reduceEqDiff, Nat.reduceLT, Nat.reduceLeDiff, Nat.reduceAdd, Nat.reduceMul, Nat.reduceSub, Nat.reduceBEq, Int.reduceToNat, Int.reduceLE, Int.reduceLT, Int.reduceNeg, Nat.reduceMod, sid_ne1, sid_ne2, sid_inj, sid_mod, gT, TK.isInt, TK.agg, Array.toList]
  refine loop_of (fun (k : Nat) s => s.sl 1 = .ref 1 1 0 ∧ s.rw 1 = ⟨1, .box 27 [int2 x]⟩ ∧ s.sl 3 = int k ∧ k ≤ x.length ∧ ∀ i, i < k → ok19 x i) (fun k => x.length - k) 0 ⟨by simp (maxSteps := 5000000) -dsimp only [gr, Nat.reduceEqDiff, Nat.reduceLT, Nat.reduceAdd, Nat.reduceMod, Nat.reduceBEq, sid_mod, sid_ne1, sid_ne2, sid_inj], by simp (maxSteps := 5000000) -dsimp only [gr, Nat.reduceEqDiff, Nat.reduceLT, Nat.reduceAdd, Nat.reduceMod, Nat.reduceBEq, sid_mod, sid_ne1, sid_ne2, sid_inj], by simp (maxSteps := 5000000) -dsimp only [gr, Nat.reduceEqDiff, Nat.reduceLT, Nat.reduceAdd, Nat.reduceMod, Nat.reduceBEq, sid_mod, sid_ne1, sid_ne2, sid_inj]; rfl, by simp, by simp⟩ ?_
  intro k s1 ⟨h1, r1, h3, hk, hall⟩
  simp (maxSteps := 5000000) -dsimp only [↓gp, gq, reduceCtorEq, Nat.reduceEqDiff, Nat.reduceLT, Nat.reduceLeDiff, Nat.reduceAdd, Nat.reduceMul, Nat.reduceSub, Nat.reduceBEq, Int.reduceToNat, Int.reduceLE, Int.reduceLT, Int.reduceNeg, Nat.reduceMod, sid_ne1, sid_ne2, sid_inj, sid_mod, gT, TK.isInt, TK.agg, Array.toList, h1, r1, h3]
  refine ⟨fun h => ⟨h, h, askK_of (c_spec_l35List _) ?_⟩, fun h => ?_⟩
  · simp (maxSteps := 5000000) -dsimp only [↓gp, gq, reduceCtorEq, Nat.reduceEqDiff, Nat.reduceLT, Nat.reduceLeDiff, Nat.reduceAdd, Nat.reduceMul, Nat.reduceSub, Nat.reduceBEq, Int.reduceToNat, Int.reduceLE, Int.reduceLT, Int.reduceNeg, Nat.reduceMod, sid_ne1, sid_ne2, sid_inj, sid_mod, gT, TK.isInt, TK.agg, Array.toList, h1, r1, h3]
    refine ⟨fun hp => p19_no h fun hh => by rw [hh.1] at hp; simp at hp, fun hp => ?_⟩
    have hkp := isPow_3 (show isPow (x.getD k []) = true by simpa using hp)
    refine loop_of (fun (i : Nat) s => s.sl 1 = .ref 1 1 0 ∧ s.rw 1 = ⟨1, .box 27 [int2 x]⟩ ∧ s.sl 3 = int k ∧ s.sl 4 = int i ∧ i ≤ k ∧ ∀ j, j < i → div3 (x.getD j []) (x.getD k []) = false ∧ div3 (x.getD k []) (x.getD j []) = false) (fun i => k - i) 0 ⟨by simp (maxSteps := 5000000) -dsimp only [gr, Nat.reduceEqDiff, Nat.reduceLT, Nat.reduceAdd, Nat.reduceMod, Nat.reduceBEq, sid_mod, sid_ne1, sid_ne2, sid_inj, h1], by simp (maxSteps := 5000000) -dsimp only [gr, Nat.reduceEqDiff, Nat.reduceLT, Nat.reduceAdd, Nat.reduceMod, Nat.reduceBEq, sid_mod, sid_ne1, sid_ne2, sid_inj, r1], by simp (maxSteps := 5000000) -dsimp only [gr, Nat.reduceEqDiff, Nat.reduceLT, Nat.reduceAdd, Nat.reduceMod, Nat.reduceBEq, sid_mod, sid_ne1, sid_ne2, sid_inj, h3], by simp (maxSteps := 5000000) -dsimp only [gr, Nat.reduceEqDiff, Nat.reduceLT, Nat.reduceAdd, Nat.reduceMod, Nat.reduceBEq, sid_mod, sid_ne1, sid_ne2, sid_inj]; rfl, by simp, by simp⟩ ?_
    intro i s2 ⟨h1, r1, h3, h4, hi, hall2⟩
    simp (maxSteps := 5000000) -dsimp only [↓gp, gq, reduceCtorEq, Nat.reduceEqDiff, Nat.reduceLT, Nat.reduceLeDiff, Nat.reduceAdd, Nat.reduceMul, Nat.reduceSub, Nat.reduceBEq, Int.reduceToNat, Int.reduceLE, Int.reduceLT, Int.reduceNeg, Nat.reduceMod, sid_ne1, sid_ne2, sid_inj, sid_mod, gT, TK.isInt, TK.agg, Array.toList, h1, r1, h3, h4]
    refine ⟨fun hik => ⟨by kernel_rfl, by omega, by omega, by omega, by omega, ?_⟩, fun hik => ?_⟩
    · have hip := isPow_3 (hall i hik).1
      refine askK_of (c_spec_l35Divides _ _ (by omega) (by omega)) ?_
      simp (maxSteps := 5000000) -dsimp only [↓gp, gq, reduceCtorEq, Nat.reduceEqDiff, Nat.reduceLT, Nat.reduceLeDiff, Nat.reduceAdd, Nat.reduceMul, Nat.reduceSub, Nat.reduceBEq, Int.reduceToNat, Int.reduceLE, Int.reduceLT, Int.reduceNeg, Nat.reduceMod, sid_ne1, sid_ne2, sid_inj, sid_mod, gT, TK.isInt, TK.agg, Array.toList, h1, r1, h3, h4]
      refine ⟨fun ha => ⟨by omega, by omega, by omega, by omega, askK_of (c_spec_l35Divides _ _ (by omega) (by omega)) ?_⟩, fun ha => p19_no h fun hh => by rw [(hh.2.1 i hik).1] at ha; simp at ha⟩
      simp (maxSteps := 5000000) -dsimp only [↓gp, gq, reduceCtorEq, Nat.reduceEqDiff, Nat.reduceLT, Nat.reduceLeDiff, Nat.reduceAdd, Nat.reduceMul, Nat.reduceSub, Nat.reduceBEq, Int.reduceToNat, Int.reduceLE, Int.reduceLT, Int.reduceNeg, Nat.reduceMod, sid_ne1, sid_ne2, sid_inj, sid_mod, gT, TK.isInt, TK.agg, Array.toList, h1, r1, h3, h4]
      refine ⟨fun hb => p19_no h fun hh => by rw [(hh.2.1 i hik).2] at hb; simp at hb, fun hb => ?_⟩
      refine again_of (i + 1) ⟨by simp (maxSteps := 5000000) -dsimp only [gr, Nat.reduceEqDiff, Nat.reduceLT, Nat.reduceAdd, Nat.reduceMod, Nat.reduceBEq, sid_mod, sid_ne1, sid_ne2, sid_inj, h1], by simp (maxSteps := 5000000) -dsimp only [gr, Nat.reduceEqDiff, Nat.reduceLT, Nat.reduceAdd, Nat.reduceMod, Nat.reduceBEq, sid_mod, sid_ne1, sid_ne2, sid_inj, r1], by simp (maxSteps := 5000000) -dsimp only [gr, Nat.reduceEqDiff, Nat.reduceLT, Nat.reduceAdd, Nat.reduceMod, Nat.reduceBEq, sid_mod, sid_ne1, sid_ne2, sid_inj, h3], by simp (maxSteps := 5000000) -dsimp only [gr, Nat.reduceEqDiff, Nat.reduceLT, Nat.reduceAdd, Nat.reduceMod, Nat.reduceBEq, sid_mod, sid_ne1, sid_ne2, sid_inj]; rw [wrap_nat hik (by omega)], hik, fun j hj => ?_⟩ (by omega)
      rcases Nat.lt_succ_iff_lt_or_eq.1 hj with hj | rfl
      · exact hall2 j hj
      · exact ⟨ha, hb⟩
    · have hik : i = k := by omega
      subst hik
      have hw : IntKind.i64.wrap ((i : Int) - 1) = (i : Int) - 1 := wrap_id (by omega) (by omega)
      simp (maxSteps := 5000000) -dsimp only [↓gp, gq, reduceCtorEq, Nat.reduceEqDiff, Nat.reduceLT, Nat.reduceLeDiff, Nat.reduceAdd, Nat.reduceMul, Nat.reduceSub, Nat.reduceBEq, Int.reduceToNat, Int.reduceLE, Int.reduceLT, Int.reduceNeg, Nat.reduceMod, sid_ne1, sid_ne2, sid_inj, sid_mod, gT, TK.isInt, TK.agg, Array.toList, h1, r1, h3, h4, hw, toNat_pred]
      refine ⟨by kernel_rfl, fun h0 => ⟨h, h, by omega, by omega, by omega, askK_of (c_spec_l9Less _ _) ?_⟩, fun h0 => ?_⟩
      · simp (maxSteps := 5000000) -dsimp only [↓gp, gq, reduceCtorEq, Nat.reduceEqDiff, Nat.reduceLT, Nat.reduceLeDiff, Nat.reduceAdd, Nat.reduceMul, Nat.reduceSub, Nat.reduceBEq, Int.reduceToNat, Int.reduceLE, Int.reduceLT, Int.reduceNeg, Nat.reduceMod, sid_ne1, sid_ne2, sid_inj, sid_mod, gT, TK.isInt, TK.agg, Array.toList, h1, r1, h3, h4, hw, toNat_pred]
        refine ⟨fun hq => p19_no h fun hh => ?_, fun hq => ?_⟩
        · rw [hh.2.2 (by omega)] at hq; simp at hq
        · refine again_of (i + 1) ⟨by simp (maxSteps := 5000000) -dsimp only [gr, Nat.reduceEqDiff, Nat.reduceLT, Nat.reduceAdd, Nat.reduceMod, Nat.reduceBEq, sid_mod, sid_ne1, sid_ne2, sid_inj, h1], by simp (maxSteps := 5000000) -dsimp only [gr, Nat.reduceEqDiff, Nat.reduceLT, Nat.reduceAdd, Nat.reduceMod, Nat.reduceBEq, sid_mod, sid_ne1, sid_ne2, sid_inj, r1], by simp (maxSteps := 5000000) -dsimp only [gr, Nat.reduceEqDiff, Nat.reduceLT, Nat.reduceAdd, Nat.reduceMod, Nat.reduceBEq, sid_mod, sid_ne1, sid_ne2, sid_inj]; rw [wrap_nat h hl.1], h, fun j hj => ?_⟩ (by omega)
          rcases Nat.lt_succ_iff_lt_or_eq.1 hj with hj | rfl
          · exact hall j hj
          · exact ⟨by simpa using hp, hall2, fun _ => by simpa using hq⟩
      · refine again_of (i + 1) ⟨by simp (maxSteps := 5000000) -dsimp only [gr, Nat.reduceEqDiff, Nat.reduceLT, Nat.reduceAdd, Nat.reduceMod, Nat.reduceBEq, sid_mod, sid_ne1, sid_ne2, sid_inj, h1], by simp (maxSteps := 5000000) -dsimp only [gr, Nat.reduceEqDiff, Nat.reduceLT, Nat.reduceAdd, Nat.reduceMod, Nat.reduceBEq, sid_mod, sid_ne1, sid_ne2, sid_inj, r1], by simp (maxSteps := 5000000) -dsimp only [gr, Nat.reduceEqDiff, Nat.reduceLT, Nat.reduceAdd, Nat.reduceMod, Nat.reduceBEq, sid_mod, sid_ne1, sid_ne2, sid_inj]; rw [wrap_nat h hl.1], h, fun j hj => ?_⟩ (by omega)
        rcases Nat.lt_succ_iff_lt_or_eq.1 hj with hj | rfl
        · exact hall j hj
        · exact ⟨by simpa using hp, hall2, fun _ => by omega⟩
  · have hh : ∀ k, k < x.length → ok19 x k := fun j hj => hall j (by omega)
    by_cases h5 : x.length ≤ 5
    · rw [decide_eq_true (show (x.length : Int) ≤ 5 by omega)]
      exact p19_yes ⟨hh, h5⟩
    · rw [decide_eq_false (show ¬ (x.length : Int) ≤ 5 by omega)]
      exact p19_not fun h => h5 h.2
def ok21 (x : List (List Int)) (k : Nat) : Prop := isPow (x.getD k []) = true ∧ (0 < k → ¬ cmpL (x.getD (k - 1) []) (x.getD k []) ≤ 0)
def nd21 (x : List (List Int)) (i : Nat) : Prop := ∀ j, j < x.length → i ≠ j → divL (x.getD i []) (x.getD j []) = false
open Classical in
noncomputable def p21 (x : List (List Int)) : Bool := decide (x.length ≤ 5 ∧ (∀ k, k < x.length → ok21 x k) ∧ ∀ i, i < x.length → nd21 x i)
open Classical in
theorem p21_a {x : List (List Int)} (hn : ¬ x.length ≤ 5) : p21 x = false := decide_eq_false fun hh => hn hh.1
open Classical in
theorem p21_b {x : List (List Int)} {k : Nat} (h : k < x.length) (hn : ¬ ok21 x k) : p21 x = false := decide_eq_false fun hh => hn (hh.2.1 k h)
open Classical in
theorem p21_c {x : List (List Int)} {k : Nat} (h : k < x.length) (hn : ¬ nd21 x k) : p21 x = false := decide_eq_false fun hh => hn (hh.2.2 k h)
open Classical in
theorem p21_yes {x : List (List Int)} (h : x.length ≤ 5 ∧ (∀ k, k < x.length → ok21 x k) ∧ ∀ i, i < x.length → nd21 x i) : p21 x = true := decide_eq_true h
open Classical in
theorem p21_not {x : List (List Int)} (h : ¬ (x.length ≤ 5 ∧ (∀ k, k < x.length → ok21 x k) ∧ ∀ i, i < x.length → nd21 x i)) : p21 x = false := decide_eq_false h
theorem c_impl_ArePowers (x : List (List Int)) : AC Try.prog 63 [.ag [int2 x]] (.im (bool (p21 x))) := by
  refine AC.go (rs := [.tmp 2]) T_ok mixed Try.func63 rfl rfl rfl (by kernel_rfl) fun hl => ?_
  simp only [lens_cons, lens_nil, and_true, lens2, List.mem_singleton, forall_eq, lens1_iLL] at hl
  simp (maxSteps := 5000000) -dsimp only [↓gp, gq, reduceCtorEq, Nat.reduceEqDiff, Nat.reduceLT, Nat.reduceLeDiff, Nat.reduceAdd, Nat.reduceMul, Nat.reduceSub, Nat.reduceBEq, Int.reduceToNat, Int.reduceLE, Int.reduceLT, Int.reduceNeg, Nat.reduceMod, sid_ne1, sid_ne2, sid_inj, sid_mod, gT, TK.isInt, TK.agg, Array.toList]
  refine ⟨fun h => p21_a (by omega), fun h5 => ?_⟩
  refine loop_of (fun (k : Nat) s => s.sl 1 = .ref 1 1 0 ∧ s.rw 1 = ⟨1, .box 27 [int2 x]⟩ ∧ s.sl 14 = int2 x ∧ s.sl 15 = int x.length ∧ s.sl 16 = int k ∧ k ≤ x.length ∧ ∀ i, i < k → ok21 x i) (fun k => x.length - k) 0 ⟨by simp (maxSteps := 5000000) -dsimp only [gr, Nat.reduceEqDiff, Nat.reduceLT, Nat.reduceAdd, Nat.reduceMod, Nat.reduceBEq, sid_mod, sid_ne1, sid_ne2, sid_inj], by simp (maxSteps := 5000000) -dsimp only [gr, Nat.reduceEqDiff, Nat.reduceLT, Nat.reduceAdd, Nat.reduceMod, Nat.reduceBEq, sid_mod, sid_ne1, sid_ne2, sid_inj], by simp (maxSteps := 5000000) -dsimp only [gr, Nat.reduceEqDiff, Nat.reduceLT, Nat.reduceAdd, Nat.reduceMod, Nat.reduceBEq, sid_mod, sid_ne1, sid_ne2, sid_inj], by simp (maxSteps := 5000000) -dsimp only [gr, Nat.reduceEqDiff, Nat.reduceLT, Nat.reduceAdd, Nat.reduceMod, Nat.reduceBEq, sid_mod, sid_ne1, sid_ne2, sid_inj], by simp (maxSteps := 5000000) -dsimp only [gr, Nat.reduceEqDiff, Nat.reduceLT, Nat.reduceAdd, Nat.reduceMod, Nat.reduceBEq, sid_mod, sid_ne1, sid_ne2, sid_inj]; rfl, by simp, by simp⟩ ?_
  intro k s1 ⟨h1, r1, h14, h15, h16, hk, hall⟩
  have hw : IntKind.i64.wrap ((k : Int) - 1) = (k : Int) - 1 := wrap_id (by omega) (by omega)
  simp (maxSteps := 5000000) -dsimp only [↓gp, gq, reduceCtorEq, Nat.reduceEqDiff, Nat.reduceLT, Nat.reduceLeDiff, Nat.reduceAdd, Nat.reduceMul, Nat.reduceSub, Nat.reduceBEq, Int.reduceToNat, Int.reduceLE, Int.reduceLT, Int.reduceNeg, Nat.reduceMod, sid_ne1, sid_ne2, sid_inj, sid_mod, gT, TK.isInt, TK.agg, Array.toList, h1, r1, h14, h15, h16]
  refine ⟨fun h => ⟨h, h, askK_of (c_impl_isPowerList _) ?_⟩, fun h => ?_⟩
  · simp (maxSteps := 5000000) -dsimp only [↓gp, gq, reduceCtorEq, Nat.reduceEqDiff, Nat.reduceLT, Nat.reduceLeDiff, Nat.reduceAdd, Nat.reduceMul, Nat.reduceSub, Nat.reduceBEq, Int.reduceToNat, Int.reduceLE, Int.reduceLT, Int.reduceNeg, Nat.reduceMod, sid_ne1, sid_ne2, sid_inj, sid_mod, gT, TK.isInt, TK.agg, Array.toList, h1, r1, h14, h15, h16, hw, toNat_pred]
    refine ⟨fun hp => p21_b h fun hh => by rw [hh.1] at hp; simp at hp, fun hp => ⟨fun h0 => ⟨by omega, by omega, by omega, askK_of (c_slices_Compare _ _) ?_⟩, fun h0 => ?_⟩⟩
    · simp (maxSteps := 5000000) -dsimp only [↓gp, gq, reduceCtorEq, Nat.reduceEqDiff, Nat.reduceLT, Nat.reduceLeDiff, Nat.reduceAdd, Nat.reduceMul, Nat.reduceSub, Nat.reduceBEq, Int.reduceToNat, Int.reduceLE, Int.reduceLT, Int.reduceNeg, Nat.reduceMod, sid_ne1, sid_ne2, sid_inj, sid_mod, gT, TK.isInt, TK.agg, Array.toList, h1, r1, h14, h15, h16, hw, toNat_pred]
      refine ⟨fun hq => p21_b h fun hh => hh.2 (by omega) hq, fun hq => ?_⟩
      refine again_of (k + 1) ⟨by simp (maxSteps := 5000000) -dsimp only [gr, Nat.reduceEqDiff, Nat.reduceLT, Nat.reduceAdd, Nat.reduceMod, Nat.reduceBEq, sid_mod, sid_ne1, sid_ne2, sid_inj, h1], by simp (maxSteps := 5000000) -dsimp only [gr, Nat.reduceEqDiff, Nat.reduceLT, Nat.reduceAdd, Nat.reduceMod, Nat.reduceBEq, sid_mod, sid_ne1, sid_ne2, sid_inj, r1], by simp (maxSteps := 5000000) -dsimp only [gr, Nat.reduceEqDiff, Nat.reduceLT, Nat.reduceAdd, Nat.reduceMod, Nat.reduceBEq, sid_mod, sid_ne1, sid_ne2, sid_inj, h14], by simp (maxSteps := 5000000) -dsimp only [gr, Nat.reduceEqDiff, Nat.reduceLT, Nat.reduceAdd, Nat.reduceMod, Nat.reduceBEq, sid_mod, sid_ne1, sid_ne2, sid_inj, h15], by simp (maxSteps := 5000000) -dsimp only [gr, Nat.reduceEqDiff, Nat.reduceLT, Nat.reduceAdd, Nat.reduceMod, Nat.reduceBEq, sid_mod, sid_ne1, sid_ne2, sid_inj]; rw [wrap_nat h hl.1], h, fun j hj => ?_⟩ (by omega)
      rcases Nat.lt_succ_iff_lt_or_eq.1 hj with hj | rfl
      · exact hall j hj
      · exact ⟨by simpa using hp, fun _ => hq⟩
    · refine again_of (k + 1) ⟨by simp (maxSteps := 5000000) -dsimp only [gr, Nat.reduceEqDiff, Nat.reduceLT, Nat.reduceAdd, Nat.reduceMod, Nat.reduceBEq, sid_mod, sid_ne1, sid_ne2, sid_inj, h1], by simp (maxSteps := 5000000) -dsimp only [gr, Nat.reduceEqDiff, Nat.reduceLT, Nat.reduceAdd, Nat.reduceMod, Nat.reduceBEq, sid_mod, sid_ne1, sid_ne2, sid_inj, r1], by simp (maxSteps := 5000000) -dsimp only [gr, Nat.reduceEqDiff, Nat.reduceLT, Nat.reduceAdd, Nat.reduceMod, Nat.reduceBEq, sid_mod, sid_ne1, sid_ne2, sid_inj, h14], by simp (maxSteps := 5000000) -dsimp only [gr, Nat.reduceEqDiff, Nat.reduceLT, Nat.reduceAdd, Nat.reduceMod, Nat.reduceBEq, sid_mod, sid_ne1, sid_ne2, sid_inj, h15], by simp (maxSteps := 5000000) -dsimp only [gr, Nat.reduceEqDiff, Nat.reduceLT, Nat.reduceAdd, Nat.reduceMod, Nat.reduceBEq, sid_mod, sid_ne1, sid_ne2, sid_inj]; rw [wrap_nat h hl.1], h, fun j hj => ?_⟩ (by omega)
      rcases Nat.lt_succ_iff_lt_or_eq.1 hj with hj | rfl
      · exact hall j hj
      · exact ⟨by simpa using hp, fun _ => by omega⟩
  · have hall : ∀ k, k < x.length → ok21 x k := fun j hj => hall j (by omega)
    refine loop_of (fun (k : Nat) s => s.sl 1 = .ref 1 1 0 ∧ s.rw 1 = ⟨1, .box 27 [int2 x]⟩ ∧ s.sl 39 = int2 x ∧ s.sl 40 = int x.length ∧ s.sl 41 = int k ∧ k ≤ x.length ∧ ∀ i, i < k → nd21 x i) (fun k => x.length - k) 0 ⟨by simp (maxSteps := 5000000) -dsimp only [gr, Nat.reduceEqDiff, Nat.reduceLT, Nat.reduceAdd, Nat.reduceMod, Nat.reduceBEq, sid_mod, sid_ne1, sid_ne2, sid_inj, h1], by simp (maxSteps := 5000000) -dsimp only [gr, Nat.reduceEqDiff, Nat.reduceLT, Nat.reduceAdd, Nat.reduceMod, Nat.reduceBEq, sid_mod, sid_ne1, sid_ne2, sid_inj, r1], by simp (maxSteps := 5000000) -dsimp only [gr, Nat.reduceEqDiff, Nat.reduceLT, Nat.reduceAdd, Nat.reduceMod, Nat.reduceBEq, sid_mod, sid_ne1, sid_ne2, sid_inj], by simp (maxSteps := 5000000) -dsimp only [gr, Nat.reduceEqDiff, Nat.reduceLT, Nat.reduceAdd, Nat.reduceMod, Nat.reduceBEq, sid_mod, sid_ne1, sid_ne2, sid_inj], by simp (maxSteps := 5000000) -dsimp only [gr, Nat.reduceEqDiff, Nat.reduceLT, Nat.reduceAdd, Nat.reduceMod, Nat.reduceBEq, sid_mod, sid_ne1, sid_ne2, sid_inj]; rfl, by simp, by simp⟩ ?_
    intro i s2 ⟨h1, r1, h39, h40, h41, hi, hnd⟩
    simp (maxSteps := 5000000) -dsimp only [↓gp, gq, reduceCtorEq, Nat.reduceEqDiff, Nat.reduceLT, Nat.reduceLeDiff, Nat.reduceAdd, Nat.reduceMul, Nat.reduceSub, Nat.reduceBEq, Int.reduceToNat, Int.reduceLE, Int.reduceLT, Int.reduceNeg, Nat.reduceMod, sid_ne1, sid_ne2, sid_inj, sid_mod, gT, TK.isInt, TK.agg, Array.toList, h1, r1, h39, h40, h41]
    refine ⟨fun hin => ⟨hin, hin, ?_⟩, fun hin => ?_⟩
    · refine loop_of (fun (j : Nat) s => s.sl 1 = .ref 1 1 0 ∧ s.rw 1 = ⟨1, .box 27 [int2 x]⟩ ∧ s.sl 39 = int2 x ∧ s.sl 40 = int x.length ∧ s.sl 41 = int i ∧ s.sl 5 = int i ∧ s.sl 6 = .sl false 1 (iL (x.getD i [])) ∧ s.sl 47 = int2 x ∧ s.sl 48 = int x.length ∧ s.sl 49 = int j ∧ j ≤ x.length ∧ ∀ k, k < j → i ≠ k → divL (x.getD i []) (x.getD k []) = false) (fun j => x.length - j) 0 ⟨by simp (maxSteps := 5000000) -dsimp only [gr, Nat.reduceEqDiff, Nat.reduceLT, Nat.reduceAdd, Nat.reduceMod, Nat.reduceBEq, sid_mod, sid_ne1, sid_ne2, sid_inj, h1], by simp (maxSteps := 5000000) -dsimp only [gr, Nat.reduceEqDiff, Nat.reduceLT, Nat.reduceAdd, Nat.reduceMod, Nat.reduceBEq, sid_mod, sid_ne1, sid_ne2, sid_inj, r1], by simp (maxSteps := 5000000) -dsimp only [gr, Nat.reduceEqDiff, Nat.reduceLT, Nat.reduceAdd, Nat.reduceMod, Nat.reduceBEq, sid_mod, sid_ne1, sid_ne2, sid_inj, h39], by simp (maxSteps := 5000000) -dsimp only [gr, Nat.reduceEqDiff, Nat.reduceLT, Nat.reduceAdd, Nat.reduceMod, Nat.reduceBEq, sid_mod, sid_ne1, sid_ne2, sid_inj, h40], by simp (maxSteps := 5000000) -dsimp only [gr, Nat.reduceEqDiff, Nat.reduceLT, Nat.reduceAdd, Nat.reduceMod, Nat.reduceBEq, sid_mod, sid_ne1, sid_ne2, sid_inj, h41], by simp (maxSteps := 5000000) -dsimp only [gr, Nat.reduceEqDiff, Nat.reduceLT, Nat.reduceAdd, Nat.reduceMod, Nat.reduceBEq, sid_mod, sid_ne1, sid_ne2, sid_inj], by simp (maxSteps := 5000000) -dsimp only [gr, Nat.reduceEqDiff, Nat.reduceLT, Nat.reduceAdd, Nat.reduceMod, Nat.reduceBEq, sid_mod, sid_ne1, sid_ne2, sid_inj], by simp (maxSteps := 5000000) -dsimp only [gr, Nat.reduceEqDiff, Nat.reduceLT, Nat.reduceAdd, Nat.reduceMod, Nat.reduceBEq, sid_mod, sid_ne1, sid_ne2, sid_inj], by simp (maxSteps := 5000000) -dsimp only [gr, Nat.reduceEqDiff, Nat.reduceLT, Nat.reduceAdd, Nat.reduceMod, Nat.reduceBEq, sid_mod, sid_ne1, sid_ne2, sid_inj], by simp (maxSteps := 5000000) -dsimp only [gr, Nat.reduceEqDiff, Nat.reduceLT, Nat.reduceAdd, Nat.reduceMod, Nat.reduceBEq, sid_mod, sid_ne1, sid_ne2, sid_inj]; rfl, by simp, by simp⟩ ?_
      intro j s3 ⟨h1, r1, h39, h40, h41, h5', h6, h47, h48, h49, hj, hd⟩
      simp (maxSteps := 5000000) -dsimp only [↓gp, gq, reduceCtorEq, Nat.reduceEqDiff, Nat.reduceLT, Nat.reduceLeDiff, Nat.reduceAdd, Nat.reduceMul, Nat.reduceSub, Nat.reduceBEq, Int.reduceToNat, Int.reduceLE, Int.reduceLT, Int.reduceNeg, Nat.reduceMod, sid_ne1, sid_ne2, sid_inj, sid_mod, gT, TK.isInt, TK.agg, Array.toList, h1, r1, h39, h40, h41, h5', h6, h47, h48, h49]
      have h3 : ∀ k, k < x.length → (x.getD k []).length = 3 := fun k hk => isPow_3 (hall k hk).1
      refine ⟨fun hjn => ⟨hjn, hjn, fun hne => askK_of (c_impl_divides _ _ (by rw [h3 _ hin, h3 _ hjn]; omega)) ?_, fun hne => ?_⟩, fun hjn => ?_⟩
      · simp (maxSteps := 5000000) -dsimp only [↓gp, gq, reduceCtorEq, Nat.reduceEqDiff, Nat.reduceLT, Nat.reduceLeDiff, Nat.reduceAdd, Nat.reduceMul, Nat.reduceSub, Nat.reduceBEq, Int.reduceToNat, Int.reduceLE, Int.reduceLT, Int.reduceNeg, Nat.reduceMod, sid_ne1, sid_ne2, sid_inj, sid_mod, gT, TK.isInt, TK.agg, Array.toList, h1, r1, h39, h40, h41, h5', h6, h47, h48, h49]
        refine ⟨fun hq => p21_c hin fun hh => by rw [hh j hjn (by simp at hne; omega)] at hq; simp at hq, fun hq => ?_⟩
        refine again_of (j + 1) ⟨by simp (maxSteps := 5000000) -dsimp only [gr, Nat.reduceEqDiff, Nat.reduceLT, Nat.reduceAdd, Nat.reduceMod, Nat.reduceBEq, sid_mod, sid_ne1, sid_ne2, sid_inj, h1], by simp (maxSteps := 5000000) -dsimp only [gr, Nat.reduceEqDiff, Nat.reduceLT, Nat.reduceAdd, Nat.reduceMod, Nat.reduceBEq, sid_mod, sid_ne1, sid_ne2, sid_inj, r1], by simp (maxSteps := 5000000) -dsimp only [gr, Nat.reduceEqDiff, Nat.reduceLT, Nat.reduceAdd, Nat.reduceMod, Nat.reduceBEq, sid_mod, sid_ne1, sid_ne2, sid_inj, h39], by simp (maxSteps := 5000000) -dsimp only [gr, Nat.reduceEqDiff, Nat.reduceLT, Nat.reduceAdd, Nat.reduceMod, Nat.reduceBEq, sid_mod, sid_ne1, sid_ne2, sid_inj, h40], by simp (maxSteps := 5000000) -dsimp only [gr, Nat.reduceEqDiff, Nat.reduceLT, Nat.reduceAdd, Nat.reduceMod, Nat.reduceBEq, sid_mod, sid_ne1, sid_ne2, sid_inj, h41], by simp (maxSteps := 5000000) -dsimp only [gr, Nat.reduceEqDiff, Nat.reduceLT, Nat.reduceAdd, Nat.reduceMod, Nat.reduceBEq, sid_mod, sid_ne1, sid_ne2, sid_inj, h5'], by simp (maxSteps := 5000000) -dsimp only [gr, Nat.reduceEqDiff, Nat.reduceLT, Nat.reduceAdd, Nat.reduceMod, Nat.reduceBEq, sid_mod, sid_ne1, sid_ne2, sid_inj, h6], by simp (maxSteps := 5000000) -dsimp only [gr, Nat.reduceEqDiff, Nat.reduceLT, Nat.reduceAdd, Nat.reduceMod, Nat.reduceBEq, sid_mod, sid_ne1, sid_ne2, sid_inj, h47], by simp (maxSteps := 5000000) -dsimp only [gr, Nat.reduceEqDiff, Nat.reduceLT, Nat.reduceAdd, Nat.reduceMod, Nat.reduceBEq, sid_mod, sid_ne1, sid_ne2, sid_inj, h48], by simp (maxSteps := 5000000) -dsimp only [gr, Nat.reduceEqDiff, Nat.reduceLT, Nat.reduceAdd, Nat.reduceMod, Nat.reduceBEq, sid_mod, sid_ne1, sid_ne2, sid_inj]; rw [wrap_nat hjn hl.1], hjn, fun k hk => ?_⟩ (by omega)
        rcases Nat.lt_succ_iff_lt_or_eq.1 hk with hk | rfl
        · exact hd k hk
        · exact fun _ => hq
      · refine again_of (j + 1) ⟨by simp (maxSteps := 5000000) -dsimp only [gr, Nat.reduceEqDiff, Nat.reduceLT, Nat.reduceAdd, Nat.reduceMod, Nat.reduceBEq, sid_mod, sid_ne1, sid_ne2, sid_inj, h1], by simp (maxSteps := 5000000) -dsimp only [gr, Nat.reduceEqDiff, Nat.reduceLT, Nat.reduceAdd, Nat.reduceMod, Nat.reduceBEq, sid_mod, sid_ne1, sid_ne2, sid_inj, r1], by simp (maxSteps := 5000000) -dsimp only [gr, Nat.reduceEqDiff, Nat.reduceLT, Nat.reduceAdd, Nat.reduceMod, Nat.reduceBEq, sid_mod, sid_ne1, sid_ne2, sid_inj, h39], by simp (maxSteps := 5000000) -dsimp only [gr, Nat.reduceEqDiff, Nat.reduceLT, Nat.reduceAdd, Nat.reduceMod, Nat.reduceBEq, sid_mod, sid_ne1, sid_ne2, sid_inj, h40], by simp (maxSteps := 5000000) -dsimp only [gr, Nat.reduceEqDiff, Nat.reduceLT, Nat.reduceAdd, Nat.reduceMod, Nat.reduceBEq, sid_mod, sid_ne1, sid_ne2, sid_inj, h41], by simp (maxSteps := 5000000) -dsimp only [gr, Nat.reduceEqDiff, Nat.reduceLT, Nat.reduceAdd, Nat.reduceMod, Nat.reduceBEq, sid_mod, sid_ne1, sid_ne2, sid_inj, h5'], by simp (maxSteps := 5000000) -dsimp only [gr, Nat.reduceEqDiff, Nat.reduceLT, Nat.reduceAdd, Nat.reduceMod, Nat.reduceBEq, sid_mod, sid_ne1, sid_ne2, sid_inj, h6], by simp (maxSteps := 5000000) -dsimp only [gr, Nat.reduceEqDiff, Nat.reduceLT, Nat.reduceAdd, Nat.reduceMod, Nat.reduceBEq, sid_mod, sid_ne1, sid_ne2, sid_inj, h47], by simp (maxSteps := 5000000) -dsimp only [gr, Nat.reduceEqDiff, Nat.reduceLT, Nat.reduceAdd, Nat.reduceMod, Nat.reduceBEq, sid_mod, sid_ne1, sid_ne2, sid_inj, h48], by simp (maxSteps := 5000000) -dsimp only [gr, Nat.reduceEqDiff, Nat.reduceLT, Nat.reduceAdd, Nat.reduceMod, Nat.reduceBEq, sid_mod, sid_ne1, sid_ne2, sid_inj]; rw [wrap_nat hjn hl.1], hjn, fun k hk => ?_⟩ (by omega)
        rcases Nat.lt_succ_iff_lt_or_eq.1 hk with hk | rfl
        · exact hd k hk
        · exact fun hn => absurd hne (by simp; omega)
      · refine again_of (i + 1) ⟨by simp (maxSteps := 5000000) -dsimp only [gr, Nat.reduceEqDiff, Nat.reduceLT, Nat.reduceAdd, Nat.reduceMod, Nat.reduceBEq, sid_mod, sid_ne1, sid_ne2, sid_inj, h1], by simp (maxSteps := 5000000) -dsimp only [gr, Nat.reduceEqDiff, Nat.reduceLT, Nat.reduceAdd, Nat.reduceMod, Nat.reduceBEq, sid_mod, sid_ne1, sid_ne2, sid_inj, r1], by simp (maxSteps := 5000000) -dsimp only [gr, Nat.reduceEqDiff, Nat.reduceLT, Nat.reduceAdd, Nat.reduceMod, Nat.reduceBEq, sid_mod, sid_ne1, sid_ne2, sid_inj, h39], by simp (maxSteps := 5000000) -dsimp only [gr, Nat.reduceEqDiff, Nat.reduceLT, Nat.reduceAdd, Nat.reduceMod, Nat.reduceBEq, sid_mod, sid_ne1, sid_ne2, sid_inj, h40], by simp (maxSteps := 5000000) -dsimp only [gr, Nat.reduceEqDiff, Nat.reduceLT, Nat.reduceAdd, Nat.reduceMod, Nat.reduceBEq, sid_mod, sid_ne1, sid_ne2, sid_inj]; rw [wrap_nat hin hl.1], hin, fun k hk => ?_⟩ (by omega)
        rcases Nat.lt_succ_iff_lt_or_eq.1 hk with hk | rfl
        · exact hnd k hk
        · exact fun m hm => hd m (by omega)
    · exact p21_yes ⟨by omega, hall, fun k hk => hnd k (by omega)⟩
theorem cmp_less : ∀ (xs ys : List Int), xs.length = ys.length → ((¬ cmpL xs ys ≤ 0) ↔ lessL ys xs = true) := by
  intro xs
  induction xs with
  | nil => intro ys h; cases ys with
    | nil => simp [cmpL, lessL]
    | cons b ys => simp at h
  | cons a xs ih => intro ys h; cases ys with
    | nil => simp at h
    | cons b ys =>
      simp only [cmpL, lessL]
      by_cases hab : a = b
      · subst hab
        have : icmp a a = 0 := by simp [icmp]
        rw [if_pos this, if_pos rfl]
        exact ih ys (by simpa using h)
      · have hba : ¬ b = a := fun e => hab e.symm
        rw [if_neg hba]
        have : icmp a b ≠ 0 := by unfold icmp; split <;> (try split) <;> omega
        rw [if_neg this]
        unfold icmp
        split
        · simp; omega
        · split
          · simp; omega
          · omega
theorem div_3 {xs ys : List Int} (hx : xs.length = 3) : divL xs ys = div3 xs ys := by
  simp only [divL, hx, div3]
  simp [List.range, List.range.loop, Bool.and_assoc]
theorem p19_21 (x : List (List Int)) : p19 x = p21 x := by
  have key : ((∀ k, k < x.length → ok19 x k) ∧ x.length ≤ 5) ↔ (x.length ≤ 5 ∧ (∀ k, k < x.length → ok21 x k) ∧ ∀ i, i < x.length → nd21 x i) := by
    constructor
    · intro ⟨h, h5⟩
      have h3 : ∀ k, k < x.length → (x.getD k []).length = 3 := fun k hk => isPow_3 (h k hk).1
      refine ⟨h5, fun k hk => ⟨(h k hk).1, fun h0 => ?_⟩, fun i hi j hj hij => ?_⟩
      · rw [cmp_less _ _ (by rw [h3 _ hk, h3 _ (by omega)])]
        exact (h k hk).2.2 h0
      · rw [div_3 (h3 i hi)]
        rcases Nat.lt_or_gt_of_ne hij with hlt | hlt
        · exact ((h j hj).2.1 i hlt).1
        · exact ((h i hi).2.1 j hlt).2
    · intro ⟨h5, h, hd⟩
      have h3 : ∀ k, k < x.length → (x.getD k []).length = 3 := fun k hk => isPow_3 (h k hk).1
      refine ⟨fun k hk => ⟨(h k hk).1, fun i hi => ⟨?_, ?_⟩, fun h0 => ?_⟩, h5⟩
      · rw [← div_3 (h3 i (by omega))]; exact hd i (by omega) k hk (by omega)
      · rw [← div_3 (h3 k hk)]; exact hd k hk i (by omega) (by omega)
      · rw [← cmp_less _ _ (by rw [h3 _ hk, h3 _ (by omega)])]; exact (h k hk).2 h0
  by_cases h : (∀ k, k < x.length → ok19 x k) ∧ x.length ≤ 5
  · rw [p19_yes h, p21_yes (key.1 h)]
  · rw [p19_not h, p21_not fun hh => h (key.2 hh)]
theorem szL_le : ∀ (rs : List (List Int)) (n : Int), n ≤ 1048576 → ¬ szL rs n < 0 → ∀ r ∈ rs, r.length ≤ 1048576 := by
  intro rs
  induction rs with
  | nil => intro n _ _ r hr; simp at hr
  | cons a rs ih =>
    intro n hn h r hr
    simp only [szL] at h
    split at h
    · simp at h
    · rename_i h2
      have h3 : n - a.length ≥ 0 := by
        unfold szI at h2
        split at h2
        · simp at h2
        · omega
      have h4 : szI n a.length = n - a.length := by unfold szI; rw [if_neg (by omega)]
      rw [h4] at h
      rcases List.mem_cons.1 hr with rfl | hr
      · omega
      · exact ih _ (by omega) h r hr
theorem szSS_le {x : List (List Int)} (h : ¬ szSS x 1048576 < 0) : x.length ≤ 1048576 ∧ ∀ r ∈ x, r.length ≤ 1048576 := by
  unfold szSS at h
  split at h
  · simp at h
  · rename_i h2
    have h3 : (1048576 : Int) - x.length ≥ 0 := by
      unfold szI at h2
      split at h2
      · simp at h2
      · omega
    have h4 : szI 1048576 x.length = 1048576 - x.length := by unfold szI; rw [if_neg (by omega)]
    rw [h4] at h
    exact ⟨by omega, szL_le x _ (by omega) h⟩
end Go.Proofs.Ytnfpeinbdfmlnaa

namespace Go.Proofs.Ytnfpeinbdfmlnaa
open Go.Abs
set_option linter.unusedSimpArgs false
set_option linter.unusedVariables false

theorem sumL_szL : ∀ (x : Mat) (n : Int), ¬ szL x n < 0 → 0 ≤ n → (sumL x x.length : Int) ≤ n := by
  have cons : ∀ (r : List Int) (rs : Mat) (i : Nat), sumL (r :: rs) (i + 1) = r.length + sumL rs i := by
    intro r rs i
    induction i with
    | zero => simp [sumL]
    | succ i ih => rw [sumL, ih, sumL]; simp; omega
  intro x
  induction x with
  | nil => intro n _ h0; simp [sumL]; exact h0
  | cons r rs ih =>
    intro n h h0
    simp only [szL] at h
    split at h
    · simp at h
    · rename_i h2
      have h3 : szI n r.length = n - r.length ∧ 0 ≤ n - (r.length : Int) := by
        unfold szI at h2 ⊢
        split at h2
        · simp at h2
        · exact ⟨if_neg ‹_›, by omega⟩
      rw [h3.1] at h
      have := ih _ h h3.2
      rw [List.length_cons, cons]
      omega
theorem szSS_sum {x : Mat} (h : ¬ szSS x 1048576 < 0) : x.length + sumL x x.length ≤ 1048576 := by
  unfold szSS at h
  split at h
  · simp at h
  · rename_i h2
    have h3 : (1048576 : Int) - x.length ≥ 0 := by
      unfold szI at h2
      split at h2
      · simp at h2
      · omega
    have h4 : szI 1048576 x.length = 1048576 - x.length := by unfold szI; rw [if_neg (by omega)]
    rw [h4] at h
    have := sumL_szL x _ h (by omega)
    omega
theorem c_laws_toIntSSN (x : Mat) (hx : x.length ≤ 1048576) (hr : ∀ r ∈ x, r.length ≤ 1048576) : ANw Try.prog 26 [int2 x] wrapI 31 3 x := by
  refine ANw.go (rs := [.tmp 2]) T_ok mixed Try.func26 rfl rfl rfl (by kernel_rfl) fun _ s hs hlow => ?_
  simp (maxSteps := 5000000) -dsimp only [↓gp, gq, reduceCtorEq, Nat.reduceEqDiff, Nat.reduceLT, Nat.reduceLeDiff, Nat.reduceAdd, Nat.reduceMul, Nat.reduceSub, Nat.reduceBEq, Int.reduceToNat, Int.reduceLE, Int.reduceLT, Int.reduceNeg, Nat.reduceMod, sid_ne1, sid_ne2, sid_inj, sid_mod, gT, TK.isInt, TK.agg, Array.toList, hs, hlow]
  refine ⟨by omega, by omega, ?_⟩
  refine loop_ini (k := 7) (v := 1) (e := 31) (e2 := 3) (n := x.length) (by simp (maxSteps := 5000000) -dsimp only [gr, Nat.reduceEqDiff, Nat.reduceLT, Nat.reduceAdd, Nat.reduceMod, Nat.reduceBEq, sid_mod, sid_ne1, sid_ne2, sid_inj, hlow]) (fun j => by simp (maxSteps := 5000000) -dsimp only [gr, Nat.reduceEqDiff, Nat.reduceLT, Nat.reduceAdd, Nat.reduceMod, Nat.reduceBEq, sid_mod, sid_ne1, sid_ne2, sid_inj, hlow]) (fun (i : Nat) s => s.sl 0 = int2 x ∧ s.sl 3 = .own 7 1 ∧ s.sl 4 = int i ∧ (i ≤ x.length ∧ TabP s.rw 7 1 31 3 x.length i (x.take i))) (fun i => x.length - i) (0) (fun sX htX hslX hoX => (by refine ⟨?_, ?_, ?_, ⟨by omega, htX⟩⟩ <;> (first | (simp (maxSteps := 5000000) -dsimp only [gr, Nat.reduceEqDiff, Nat.reduceLT, Nat.reduceAdd, Nat.reduceMod, Nat.reduceBEq, sid_mod, sid_ne1, sid_ne2, sid_inj, hslX, hoX, hs]; first | done | rfl | (simp; done)) | assumption | rfl))) ?_
  intro i sa ⟨h0a, h3a, h4a, hIa⟩
  obtain ⟨hi, ht⟩ := hIa
  simp (maxSteps := 5000000) -dsimp only [↓gp, gq, reduceCtorEq, Nat.reduceEqDiff, Nat.reduceLT, Nat.reduceLeDiff, Nat.reduceAdd, Nat.reduceMul, Nat.reduceSub, Nat.reduceBEq, Int.reduceToNat, Int.reduceLE, Int.reduceLT, Int.reduceNeg, Nat.reduceMod, sid_ne1, sid_ne2, sid_inj, sid_mod, gT, TK.isInt, TK.agg, Array.toList, h0a, h3a, h4a, ht.top, tabC_length]
  refine ⟨fun h => ⟨h, h, askK_of (c_laws_toIntS _ (hr _ (getD_mem [] h))) ?_⟩, fun h => ?_⟩
  · simp (maxSteps := 5000000) -dsimp only [↓gp, gq, reduceCtorEq, Nat.reduceEqDiff, Nat.reduceLT, Nat.reduceLeDiff, Nat.reduceAdd, Nat.reduceMul, Nat.reduceSub, Nat.reduceBEq, Int.reduceToNat, Int.reduceLE, Int.reduceLT, Int.reduceNeg, Nat.reduceMod, sid_ne1, sid_ne2, sid_inj, sid_mod, gT, TK.isInt, TK.agg, Array.toList, h0a, h3a, h4a, ht.top, tabC_length]
    have e : x.take i ++ [x.getD i []] = x.take (i + 1) := (take_snoc [] h).symm
    refine ⟨h, by omega, ?_⟩
    exact again_push (k := 7) (v := 1) (e := 31) (e2 := 3) (n := x.length) (i := i) (d := 20) (vd := (sa.rw 20).ver + 1) (M := x.take i) (r := x.getD i []) (by simp (maxSteps := 5000000) -dsimp only [gr, Nat.reduceEqDiff, Nat.reduceLT, Nat.reduceAdd, Nat.reduceMod, Nat.reduceBEq, sid_mod, sid_ne1, sid_ne2, sid_inj, ht.top]) (by simp; omega) (fun j hj => by simp (maxSteps := 5000000) -dsimp only [gr, Nat.reduceEqDiff, Nat.reduceLT, Nat.reduceAdd, Nat.reduceMod, Nat.reduceBEq, sid_mod, sid_ne1, sid_ne2, sid_inj, ht.row j hj]) (fun j hj => by simp (maxSteps := 5000000) -dsimp only [gr, Nat.reduceEqDiff, Nat.reduceLT, Nat.reduceAdd, Nat.reduceMod, Nat.reduceBEq, sid_mod, sid_ne1, sid_ne2, sid_inj, ht.rest j hj]) (by simp (maxSteps := 5000000) -dsimp only [gr, Nat.reduceEqDiff, Nat.reduceLT, Nat.reduceAdd, Nat.reduceMod, Nat.reduceBEq, sid_mod, sid_ne1, sid_ne2, sid_inj]) (by decide) (by decide) h (i + 1) (fun sX htX hslX hoX => (by refine ⟨?_, ?_, ?_, ⟨by omega, (e ▸ htX : TabP _ _ _ _ _ _ _ _)⟩⟩ <;> (first | (simp (maxSteps := 5000000) -dsimp only [gr, Nat.reduceEqDiff, Nat.reduceLT, Nat.reduceAdd, Nat.reduceMod, Nat.reduceBEq, sid_mod, sid_ne1, sid_ne2, sid_inj, hslX, hoX, h0a, h3a, h4a, h0a, h3a, h4a, wrap_nat h (show x.length ≤ 9223372036854775807 by omega)]; first | done | rfl | (simp; done)) | assumption | rfl))) (by first | omega | (simp only; omega) | (dsimp only; omega) | (show _ < _; simp; omega))
  · have : i = x.length := by omega
    subst this
    rw [List.take_length] at ht
    exact newPost_of ht.done rfl
theorem c_laws_toPowersN (x : Mat) (hx : x.length ≤ 1048576) (hr : ∀ r ∈ x, r.length ≤ 1048576) : ANw Try.prog 15 [.ag [int2 x]] wrapA 31 3 x := by
  refine ANw.go (rs := [.cell 2 27]) T_ok mixed Try.func15 rfl rfl rfl (by kernel_rfl) fun _ s hs hlow => ?_
  simp (maxSteps := 5000000) -dsimp only [↓gp, gq, reduceCtorEq, Nat.reduceEqDiff, Nat.reduceLT, Nat.reduceLeDiff, Nat.reduceAdd, Nat.reduceMul, Nat.reduceSub, Nat.reduceBEq, Int.reduceToNat, Int.reduceLE, Int.reduceLT, Int.reduceNeg, Nat.reduceMod, sid_ne1, sid_ne2, sid_inj, sid_mod, gT, TK.isInt, TK.agg, Array.toList, hs, hlow]
  refine askNew_of (d := 6) (c_laws_toIntSSN x hx hr) (.inl rfl) (.one (.sl _ _ _) .nil) (fun i _ => by simp (maxSteps := 5000000) -dsimp only [gr, Nat.reduceEqDiff, Nat.reduceLT, Nat.reduceAdd, Nat.reduceMod, Nat.reduceBEq, sid_mod, sid_ne1, sid_ne2, sid_inj, hlow]) fun S hS hSd hSs hSr => ?_
  have e0 : ∀ n : Nat, n = 0 → n + 1 = 1 := fun n h => by omega
  rw [e0 _ (by simp (maxSteps := 5000000) -dsimp only [gr, Nat.reduceEqDiff, Nat.reduceLT, Nat.reduceAdd, Nat.reduceMod, Nat.reduceBEq, sid_mod, sid_ne1, sid_ne2, sid_inj, hlow])] at hS hSd
  have hSd : S.sl 6 = .own 6 1 := hSd
  have u3 : S.sl 3 = .ref 3 1 0 := by rw [hSs 3 (by decide)]; simp (maxSteps := 5000000) -dsimp only [gr, Nat.reduceEqDiff, Nat.reduceLT, Nat.reduceAdd, Nat.reduceMod, Nat.reduceBEq, sid_mod, sid_ne1, sid_ne2, sid_inj]
  have u2 : S.sl 2 = .ref 2 1 0 := by rw [hSs 2 (by decide)]; simp (maxSteps := 5000000) -dsimp only [gr, Nat.reduceEqDiff, Nat.reduceLT, Nat.reduceAdd, Nat.reduceMod, Nat.reduceBEq, sid_mod, sid_ne1, sid_ne2, sid_inj]
  have w3 : S.rw 3 = ⟨1, .box 27 [.v (.slice none 0 0)]⟩ := by rw [hSr 3 (by decide)]; simp (maxSteps := 5000000) -dsimp only [gr, Nat.reduceEqDiff, Nat.reduceLT, Nat.reduceAdd, Nat.reduceMod, Nat.reduceBEq, sid_mod, sid_ne1, sid_ne2, sid_inj]
  have w2 : S.rw 2 = ⟨1, .box 27 [.v (.slice none 0 0)]⟩ := by rw [hSr 2 (by decide)]; simp (maxSteps := 5000000) -dsimp only [gr, Nat.reduceEqDiff, Nat.reduceLT, Nat.reduceAdd, Nat.reduceMod, Nat.reduceBEq, sid_mod, sid_ne1, sid_ne2, sid_inj]
  clear hSs hSr
  simp (maxSteps := 5000000) -dsimp only [↓gp, gq, reduceCtorEq, Nat.reduceEqDiff, Nat.reduceLT, Nat.reduceLeDiff, Nat.reduceAdd, Nat.reduceMul, Nat.reduceSub, Nat.reduceBEq, Int.reduceToNat, Int.reduceLE, Int.reduceLT, Int.reduceNeg, Nat.reduceMod, sid_ne1, sid_ne2, sid_inj, sid_mod, gT, TK.isInt, TK.agg, Array.toList, hSd, u3, u2, w3, w2, hS.top]
  exact newPost_of (hS.same (rw' := _) (by simp (maxSteps := 5000000) -dsimp only [gr, Nat.reduceEqDiff, Nat.reduceLT, Nat.reduceAdd, Nat.reduceMod, Nat.reduceBEq, sid_mod, sid_ne1, sid_ne2, sid_inj]) (fun j => by simp (maxSteps := 5000000) -dsimp only [gr, Nat.reduceEqDiff, Nat.reduceLT, Nat.reduceAdd, Nat.reduceMod, Nat.reduceBEq, sid_mod, sid_ne1, sid_ne2, sid_inj])) rfl
theorem c_laws_markPowers (M : Mat) (hl7 : M.length ≤ 1000000000000) (hsm : sumL M M.length ≤ 1000000000000) : AT Try.prog 21 [.ag [.own 1000000 1], int 1] 31 3 (M.map iL) ((mixM 1 M M.length).map iL) (.rv (.im (int (1 + (sumL M M.length : Int))))) := by
  refine AT.goI (rs := [.tmp 4]) T_ok mixed Try.func21 rfl rfl rfl (by kernel_rfl) (mixM_length _ _ _) fun hl s hs hlow ht => ?_
  simp (maxSteps := 5000000) -dsimp only [↓gp, gq, reduceCtorEq, Nat.reduceEqDiff, Nat.reduceLT, Nat.reduceLeDiff, Nat.reduceAdd, Nat.reduceMul, Nat.reduceSub, Nat.reduceBEq, Int.reduceToNat, Int.reduceLE, Int.reduceLT, Int.reduceNeg, Nat.reduceMod, sid_ne1, sid_ne2, sid_inj, sid_mod, gT, TK.isInt, TK.agg, Array.toList, hs, hlow, ht.top]
  refine askTabM_of (c_laws_markIntSSG M hl7 hsm) (by repeat (first | exact GiveL.nil | refine GiveL.v ?_ | refine GiveL.own 0 rfl ?_ | refine GiveL.own 1 rfl ?_ | refine GiveL.ag ?_ ?_)) (ht.same (by simp (maxSteps := 5000000) -dsimp only [gr, Nat.reduceEqDiff, Nat.reduceLT, Nat.reduceAdd, Nat.reduceMod, Nat.reduceBEq, sid_mod, sid_ne1, sid_ne2, sid_inj]) (fun j => by simp (maxSteps := 5000000) -dsimp only [gr, Nat.reduceEqDiff, Nat.reduceLT, Nat.reduceAdd, Nat.reduceMod, Nat.reduceBEq, sid_mod, sid_ne1, sid_ne2, sid_inj])) (mixM_length 1 M M.length) (by decide) fun S q hS hql hSd hs2 hr2 => ?_
  simp (maxSteps := 5000000) -dsimp only [↓gp, gq, reduceCtorEq, Nat.reduceEqDiff, Nat.reduceLT, Nat.reduceLeDiff, Nat.reduceAdd, Nat.reduceMul, Nat.reduceSub, Nat.reduceBEq, Int.reduceToNat, Int.reduceLE, Int.reduceLT, Int.reduceNeg, Nat.reduceMod, sid_ne1, sid_ne2, sid_inj, sid_mod, gT, TK.isInt, TK.agg, Array.toList, hSd]
  exact tabEnd_of hS hql
theorem c_laws_heldPowers (M : Mat) (hl7 : M.length ≤ 1000000000000) (hsm : sumL M M.length ≤ 1000000000000) : AC Try.prog 30 [.ag [int2 (mixM 1 M M.length)], int 1] (.im (int (1 + (sumL M M.length : Int)))) := by
  refine AC.go (rs := [.tmp 4]) T_ok mixed Try.func30 rfl rfl rfl (by kernel_rfl) fun hl => ?_
  simp (maxSteps := 5000000) -dsimp only [↓gp, gq, reduceCtorEq, Nat.reduceEqDiff, Nat.reduceLT, Nat.reduceLeDiff, Nat.reduceAdd, Nat.reduceMul, Nat.reduceSub, Nat.reduceBEq, Int.reduceToNat, Int.reduceLE, Int.reduceLT, Int.reduceNeg, Nat.reduceMod, sid_ne1, sid_ne2, sid_inj, sid_mod, gT, TK.isInt, TK.agg, Array.toList]
  refine askK_of (c_laws_heldIntSSG M hl7 hsm) ?_
  have hn : decide (1 + (sumL M M.length : Int) < 0) = false := decide_eq_false (by omega)
  simp (maxSteps := 5000000) -dsimp only [↓gp, gq, reduceCtorEq, Nat.reduceEqDiff, Nat.reduceLT, Nat.reduceLeDiff, Nat.reduceAdd, Nat.reduceMul, Nat.reduceSub, Nat.reduceBEq, Int.reduceToNat, Int.reduceLE, Int.reduceLT, Int.reduceNeg, Nat.reduceMod, sid_ne1, sid_ne2, sid_inj, sid_mod, gT, TK.isInt, TK.agg, Array.toList, hn]
end Go.Proofs.Ytnfpeinbdfmlnaa

namespace Go.Proofs.Ytnfpeinbdfmlnaa
open Go.Abs
set_option linter.unusedSimpArgs false
set_option linter.unusedVariables false

theorem p19_all {x : List (List Int)} (h : p19 x = true) : (∀ k, k < x.length → ok19 x k) ∧ x.length ≤ 5 := by
  by_cases hh : (∀ k, k < x.length → ok19 x k) ∧ x.length ≤ 5
  · exact hh
  · rw [p19_not hh] at h; cases h
theorem bit_zero : ∀ s, s < 64 → ∀ i, i < 6 → (iand .i64 (ishr .i64 (s : Nat) (i : Nat)) 1 == 0) = !s.testBit i := by
  have h : ((List.range 64).all fun s => (List.range 6).all fun i => (iand .i64 (ishr .i64 (s : Nat) (i : Nat)) 1 == 0) == !s.testBit i) = true := by decide +kernel
  intro s hs i hi
  have := List.all_eq_true.1 (List.all_eq_true.1 h s (List.mem_range.2 hs)) i (List.mem_range.2 hi)
  simpa using this
/-- The first exponents raised to those of another list. -/
def mxI (a b : List Int) (i : Nat) : List Int := (List.range 3).map fun j => if j < i then max (a.getD j 0) (b.getD j 0) else a.getD j 0
theorem mxI_len (a b : List Int) (i : Nat) : (mxI a b i).length = 3 := by simp [mxI]
theorem mxI_getD (a b : List Int) (i : Nat) {j : Nat} (h : j < 3) : (mxI a b i).getD j 0 = if j < i then max (a.getD j 0) (b.getD j 0) else a.getD j 0 := by simp [mxI, List.getD, h]
theorem mxI_zero {a b : List Int} (h : a.length = 3) : mxI a b 0 = a := by
  refine List.ext_getElem (by rw [mxI_len, h]) fun j h1 h2 => ?_
  simp [mxI, List.getD, h2]
theorem mxI_set (a b : List Int) {i : Nat} (h : i < 3) : (mxI a b i).set i (max (a.getD i 0) (b.getD i 0)) = mxI a b (i + 1) := by
  refine List.ext_getElem (by simp [mxI]) fun j h1 h2 => ?_
  rw [List.getElem_set]
  simp only [mxI, List.getElem_map, List.getElem_range]
  by_cases e : i = j
  · subst e; simp
  · rw [if_neg e]
    by_cases h3 : j < i
    · rw [if_pos h3, if_pos (by omega)]
    · rw [if_neg h3, if_neg (by omega)]
def mostP (x : List (List Int)) (s : Nat) : Nat → List Int
  | 0 => [0, 0, 0]
  | k + 1 => if s.testBit k = true then mxI (mostP x s k) (x.getD k []) 3 else mostP x s k
theorem mostP_len (x : List (List Int)) (s k : Nat) : (mostP x s k).length = 3 := by
  induction k with
  | zero => rfl
  | succ k ih => unfold mostP; split; exact mxI_len _ _ _; exact ih
theorem isPow_bd {r : List Int} (h : isPow r = true) {j : Nat} (hj : j < 3) : 0 ≤ r.getD j 0 ∧ r.getD j 0 ≤ 2 := by
  have hl := isPow_3 h
  simp only [isPow, Bool.and_eq_true, List.all_eq_true, decide_eq_true_eq] at h
  exact h.2 _ (getD_mem 0 (by omega))
theorem mostP_bd {x : List (List Int)} (h : p19 x = true) (s : Nat) : ∀ k, k ≤ x.length → ∀ j, j < 3 → 0 ≤ (mostP x s k).getD j 0 ∧ (mostP x s k).getD j 0 ≤ 2 := by
  intro k
  induction k with
  | zero => intro _ j hj; match j, hj with | 0, _ => simp [mostP] | 1, _ => simp [mostP] | 2, _ => simp [mostP]
  | succ k ih =>
    intro hk j hj
    have h1 := ih (by omega) j hj
    have h2 := isPow_bd ((p19_all h).1 k (by omega)).1 hj
    unfold mostP
    split
    · rw [mxI_getD _ _ _ hj, if_pos hj]; omega
    · exact h1
def degP (m : List Int) : Nat := (m.getD 0 0 + m.getD 1 0 + m.getD 2 0).toNat
def sgnN (s : Nat) : Int := 1 - 2 * ((popN s % 2 : Nat) : Int)
def outP (x : List (List Int)) : Nat → List Int
  | 0 => List.replicate 7 0
  | s + 1 => (outP x s).set (degP (mostP x s x.length)) ((outP x s).getD (degP (mostP x s x.length)) 0 + sgnN s)
theorem outP_len (x : List (List Int)) (s : Nat) : (outP x s).length = 7 := by
  induction s with
  | zero => rfl
  | succ s ih => unfold outP; simp [ih]
theorem sgnN_bd (s : Nat) : -1 ≤ sgnN s ∧ sgnN s ≤ 1 := by unfold sgnN; omega
theorem outP_bd (x : List (List Int)) : ∀ (s j : Nat), -(s : Int) ≤ (outP x s).getD j 0 ∧ (outP x s).getD j 0 ≤ s := by
  intro s
  induction s with
  | zero =>
    intro j
    have : (outP x 0).getD j 0 = 0 := by
      show (List.replicate 7 (0 : Int)).getD j 0 = 0
      by_cases h : j < 7
      · rw [List.getD_eq_getElem?_getD, List.getElem?_replicate]; simp [h]
      · rw [List.getD_eq_getElem?_getD, List.getElem?_replicate]; simp [h]
    rw [this]; omega
  | succ s ih =>
    intro j
    have h1 := ih j
    have h2 := ih (degP (mostP x s x.length))
    have h3 := sgnN_bd s
    unfold outP
    generalize degP (mostP x s x.length) = d at *
    by_cases e : j = d
    · subst e
      by_cases hl : j < (outP x s).length
      · rw [show ((outP x s).set j ((outP x s).getD j 0 + sgnN s)).getD j 0 = (outP x s).getD j 0 + sgnN s by simp [List.getD, hl]]; omega
      · rw [show ((outP x s).set j ((outP x s).getD j 0 + sgnN s)).getD j 0 = 0 by simp [List.getD, hl]]; omega
    · rw [show ((outP x s).set d ((outP x s).getD d 0 + sgnN s)).getD j 0 = (outP x s).getD j 0 by simp [List.getD, List.getElem?_set_ne (Ne.symm e)]]; omega
def sgnP (s : Nat) : Nat → Int | 0 => 1 | k + 1 => if s.testBit k = true then -sgnP s k else sgnP s k
theorem sgnP_all : ∀ n, n ≤ 5 → ∀ s, s < 2 ^ n → sgnP s n = sgnN s := by
  have h : ((List.range 6).all fun n => (List.range (2 ^ n)).all fun s => sgnP s n == 1 - 2 * ((pop6 s % 2 : Nat) : Int)) = true := by decide +kernel
  intro n hn s hs
  have := List.all_eq_true.1 (List.all_eq_true.1 h n (List.mem_range.2 (by omega))) s (List.mem_range.2 hs)
  have h64 := two_pow_le (m := n) (by omega)
  unfold sgnN
  rw [popN_6 (by omega)]
  simpa using this
theorem sgnP_bd (s k : Nat) : sgnP s k = 1 ∨ sgnP s k = -1 := by
  induction k with
  | zero => exact .inl rfl
  | succ k ih => unfold sgnP; split <;> omega
noncomputable def powS (x : List (List Int)) : List Int := if p19 x = true then outP x (2 ^ x.length) else []
theorem c_spec_PowerSums (x : List (List Int)) : AC Try.prog 18 [.ag [int2 x]] (.fr 3 1 (iL (powS x))) := by
  refine AC.go (rs := [.tmp 2]) T_ok mixed Try.func18 rfl rfl rfl (by kernel_rfl) fun hl => ?_
  simp only [lens_cons, lens_nil, and_true, lens2, List.mem_singleton, forall_eq, lens1_iLL] at hl
  simp (maxSteps := 5000000) -dsimp only [↓gp, gq, reduceCtorEq, Nat.reduceEqDiff, Nat.reduceLT, Nat.reduceLeDiff, Nat.reduceAdd, Nat.reduceMul, Nat.reduceSub, Nat.reduceBEq, Int.reduceToNat, Int.reduceLE, Int.reduceLT, Int.reduceNeg, Nat.reduceMod, sid_ne1, sid_ne2, sid_inj, sid_mod, gT, TK.isInt, TK.agg, Array.toList]
  refine askK_of (c_spec_ArePowers x) ?_
  simp (maxSteps := 5000000) -dsimp only [↓gp, gq, reduceCtorEq, Nat.reduceEqDiff, Nat.reduceLT, Nat.reduceLeDiff, Nat.reduceAdd, Nat.reduceMul, Nat.reduceSub, Nat.reduceBEq, Int.reduceToNat, Int.reduceLE, Int.reduceLT, Int.reduceNeg, Nat.reduceMod, sid_ne1, sid_ne2, sid_inj, sid_mod, gT, TK.isInt, TK.agg, Array.toList]
  refine ⟨fun hp => ?_, fun hp => ?_⟩
  · rw [powS, if_neg (by intro h; rw [h] at hp; cases hp)]; rfl
  · have hp1 : p19 x = true := by simpa using hp
    obtain ⟨hok, hx5⟩ := p19_all hp1
    have hx3 : ∀ k, k < x.length → (x.getD k []).length = 3 := fun k hk => isPow_3 (hok k hk).1
    have hsh : ishl .i64 1 (x.length : Int) = ((2 ^ x.length : Nat) : Int) := ishl_small (by omega)
    have hun : IntKind.u64.wrap (x.length : Int) = (x.length : Int) := uwrap_id (by omega)
    have h64 := two_pow_le (m := x.length) (by omega)
    have hS0 : powS x = outP x (2 ^ x.length) := if_pos hp1
    rw [hS0]
    generalize 2 ^ x.length = N at *
    refine ⟨by decide, ?_⟩
    refine loop_of (fun (za : Nat × Nat) s => match za with | (c, v) => s.sl 1 = .ref 1 1 0 ∧ s.rw 1 = ⟨1, .box 27 [int2 x]⟩ ∧ s.sl 3 = .own 13 v ∧ s.rw 13 = ⟨v, .sli 3 1 false (iL (outP x c))⟩ ∧ s.sl 4 = int c ∧ (c ≤ N)) (fun (c, v) => N - c) ((0, 1)) (by refine ⟨?_, ?_, ?_, ?_, ?_, by omega⟩ <;> (first | (simp (maxSteps := 5000000) -dsimp only [gr, Nat.reduceEqDiff, Nat.reduceLT, Nat.reduceAdd, Nat.reduceMod, Nat.reduceBEq, sid_mod, sid_ne1, sid_ne2, sid_inj, outP]; first | done | rfl | (simp; done)) | assumption | rfl)) ?_
    intro (c, v) sa ⟨h1a, r1a, h3a, r13a, h4a, hIa⟩
    by_cases hs : c < N
    · simp (maxSteps := 5000000) -dsimp only [↓gp, gq, reduceCtorEq, Nat.reduceEqDiff, Nat.reduceLT, Nat.reduceLeDiff, Nat.reduceAdd, Nat.reduceMul, Nat.reduceSub, Nat.reduceBEq, Int.reduceToNat, Int.reduceLE, Int.reduceLT, Int.reduceNeg, Nat.reduceMod, sid_ne1, sid_ne2, sid_inj, sid_mod, gT, TK.isInt, TK.agg, Array.toList, h1a, r1a, h3a, r13a, h4a, hsh, hun]
      refine ⟨fun _ => ?_, fun h => absurd hs h⟩
      refine loop_of (fun (k : Nat) s => s.sl 1 = .ref 1 1 0 ∧ s.rw 1 = ⟨1, .box 27 [int2 x]⟩ ∧ s.sl 3 = .own 13 v ∧ s.rw 13 = ⟨v, .sli 3 1 false (iL (outP x c))⟩ ∧ s.sl 4 = int c ∧ s.sl 5 = .own 23 ((sa.rw 23).ver + 1) ∧ s.rw 23 = ⟨(sa.rw 23).ver + 1, .sli 3 1 false (iL (mostP x c k))⟩ ∧ s.sl 6 = int k ∧ (k ≤ x.length)) (fun k => x.length - k) (0) (by refine ⟨?_, ?_, ?_, ?_, ?_, ?_, ?_, ?_, by omega⟩ <;> (first | (simp (maxSteps := 5000000) -dsimp only [gr, Nat.reduceEqDiff, Nat.reduceLT, Nat.reduceAdd, Nat.reduceMod, Nat.reduceBEq, sid_mod, sid_ne1, sid_ne2, sid_inj, h1a, r1a, h3a, r13a, h4a, mostP]; first | done | rfl | (simp; done)) | assumption | rfl)) ?_
      intro k sb ⟨h1b, r1b, h3b, r13b, h4b, h5b, r23b, h6b, hIb⟩
      by_cases hk : k < x.length
      · have hunk : IntKind.u64.wrap (k : Int) = (k : Int) := uwrap_id (by omega)
        have hbit := bit_test_i (a := c) (s := k) (by omega) (by omega)
        have hml := mostP_len x c k
        simp (maxSteps := 5000000) -dsimp only [↓gp, gq, reduceCtorEq, Nat.reduceEqDiff, Nat.reduceLT, Nat.reduceLeDiff, Nat.reduceAdd, Nat.reduceMul, Nat.reduceSub, Nat.reduceBEq, Int.reduceToNat, Int.reduceLE, Int.reduceLT, Int.reduceNeg, Nat.reduceMod, sid_ne1, sid_ne2, sid_inj, sid_mod, gT, TK.isInt, TK.agg, Array.toList, h1b, r1b, h3b, r13b, h4b, h5b, r23b, h6b]
        refine ⟨fun _ => ?_, fun h => absurd hk h⟩
        refine loop_of (fun (i : Nat) s => s.sl 1 = .ref 1 1 0 ∧ s.rw 1 = ⟨1, .box 27 [int2 x]⟩ ∧ s.sl 3 = .own 13 v ∧ s.rw 13 = ⟨v, .sli 3 1 false (iL (outP x c))⟩ ∧ s.sl 4 = int c ∧ s.sl 5 = .own 23 ((sa.rw 23).ver + 1) ∧ s.rw 23 = ⟨(sa.rw 23).ver + 1, .sli 3 1 false (iL (mxI (mostP x c k) (x.getD k []) i))⟩ ∧ s.sl 6 = int k ∧ s.sl 7 = int i ∧ (i ≤ 3 ∧ (c.testBit k = false → i = 0))) (fun i => 3 - i) (0) (by refine ⟨?_, ?_, ?_, ?_, ?_, ?_, ?_, ?_, ?_, ⟨by omega, fun _ => rfl⟩⟩ <;> (first | (simp (maxSteps := 5000000) -dsimp only [gr, Nat.reduceEqDiff, Nat.reduceLT, Nat.reduceAdd, Nat.reduceMod, Nat.reduceBEq, sid_mod, sid_ne1, sid_ne2, sid_inj, h1b, r1b, h3b, r13b, h4b, h5b, r23b, h6b, mxI_zero hml]; first | done | rfl | (simp; done)) | assumption | rfl)) ?_
        intro i sc ⟨h1c, r1c, h3c, r13c, h4c, h5c, r23c, h6c, h7c, hIc⟩
        obtain ⟨hi, hi0⟩ := hIc
        have hxl := mxI_len (mostP x c k) (x.getD k []) i
        have hgi : i < 3 → (mxI (mostP x c k) (x.getD k []) i).set i (max ((mxI (mostP x c k) (x.getD k []) i).getD i 0) ((x.getD k []).getD i 0)) = mxI (mostP x c k) (x.getD k []) (i + 1) := fun h => by
          rw [mxI_getD _ _ _ h, if_neg (Nat.lt_irrefl _), mxI_set _ _ h]
        simp (maxSteps := 5000000) -dsimp only [↓gp, gq, reduceCtorEq, Nat.reduceEqDiff, Nat.reduceLT, Nat.reduceLeDiff, Nat.reduceAdd, Nat.reduceMul, Nat.reduceSub, Nat.reduceBEq, Int.reduceToNat, Int.reduceLE, Int.reduceLT, Int.reduceNeg, Nat.reduceMod, sid_ne1, sid_ne2, sid_inj, sid_mod, gT, TK.isInt, TK.agg, Array.toList, h1c, r1c, h3c, r13c, h4c, h5c, r23c, h6c, h7c, hunk, hbit]
        refine ⟨fun h3 => ⟨fun hb => ⟨by kernel_rfl, by omega, by omega, hk, hk, by rw [hx3 k hk]; omega, by rw [hx3 k hk]; omega, askK_of (c_spec_l1Max _ _) ?_⟩, fun hb => ?_⟩, fun h3 => ?_⟩
        · simp (maxSteps := 5000000) -dsimp only [↓gp, gq, reduceCtorEq, Nat.reduceEqDiff, Nat.reduceLT, Nat.reduceLeDiff, Nat.reduceAdd, Nat.reduceMul, Nat.reduceSub, Nat.reduceBEq, Int.reduceToNat, Int.reduceLE, Int.reduceLT, Int.reduceNeg, Nat.reduceMod, sid_ne1, sid_ne2, sid_inj, sid_mod, gT, TK.isInt, TK.agg, Array.toList, h1c, r1c, h3c, r13c, h4c, h5c, r23c, h6c, h7c, hunk, hbit]
          have h3 : i < 3 := by omega
          have e := hgi h3
          exact ⟨by omega, by omega, by kernel_rfl, again_of (i + 1) (by refine ⟨?_, ?_, ?_, ?_, ?_, ?_, ?_, ?_, ?_, ⟨by omega, fun h => by rw [h] at hb; cases hb⟩⟩ <;> (first | (simp (maxSteps := 5000000) -dsimp only [gr, Nat.reduceEqDiff, Nat.reduceLT, Nat.reduceAdd, Nat.reduceMod, Nat.reduceBEq, sid_mod, sid_ne1, sid_ne2, sid_inj, h1c, r1c, h3c, r13c, h4c, h5c, r23c, h6c, h7c, e, wrap_nat h3 (by omega)]; first | done | rfl | (simp; done)) | assumption | rfl)) (by first | omega | (simp only; omega) | (dsimp only; omega) | (show _ < _; simp; omega))⟩
        · have h0 := hi0 hb
          subst h0
          have e : mostP x c (k + 1) = mxI (mostP x c k) (x.getD k []) 0 := by rw [mxI_zero hml]; exact if_neg (by rw [hb]; decide)
          exact again_of (k + 1) (by refine ⟨?_, ?_, ?_, ?_, ?_, ?_, ?_, ?_, by omega⟩ <;> (first | (simp (maxSteps := 5000000) -dsimp only [gr, Nat.reduceEqDiff, Nat.reduceLT, Nat.reduceAdd, Nat.reduceMod, Nat.reduceBEq, sid_mod, sid_ne1, sid_ne2, sid_inj, h1b, r1b, h3b, r13b, h4b, h5b, r23b, h6b, h1c, r1c, h3c, r13c, h4c, h5c, r23c, h6c, h7c, e, wrap_nat hk (show x.length ≤ 9223372036854775807 by omega)]; first | done | rfl | (simp; done)) | assumption | rfl)) (by first | omega | (simp only; omega) | (dsimp only; omega) | (show _ < _; simp; omega))
        · have hb : c.testBit k = true := by
            cases hb : c.testBit k with
            | true => rfl
            | false => have := hi0 hb; omega
          have h0 : i = 3 := by omega
          subst h0
          have e : mostP x c (k + 1) = mxI (mostP x c k) (x.getD k []) 3 := if_pos hb
          exact again_of (k + 1) (by refine ⟨?_, ?_, ?_, ?_, ?_, ?_, ?_, ?_, by omega⟩ <;> (first | (simp (maxSteps := 5000000) -dsimp only [gr, Nat.reduceEqDiff, Nat.reduceLT, Nat.reduceAdd, Nat.reduceMod, Nat.reduceBEq, sid_mod, sid_ne1, sid_ne2, sid_inj, h1b, r1b, h3b, r13b, h4b, h5b, r23b, h6b, h1c, r1c, h3c, r13c, h4c, h5c, r23c, h6c, h7c, e, wrap_nat hk (show x.length ≤ 9223372036854775807 by omega)]; first | done | rfl | (simp; done)) | assumption | rfl)) (by first | omega | (simp only; omega) | (dsimp only; omega) | (show _ < _; simp; omega))
      · have hkl : k = x.length := by omega
        subst hkl
        have hml := mostP_len x c x.length
        have hol := outP_len x c
        have hbd := mostP_bd hp1 c x.length (Nat.le_refl _)
        have b0 := hbd 0 (by omega)
        have b1 := hbd 1 (by omega)
        have b2 := hbd 2 (by omega)
        have hw1 : IntKind.i64.wrap ((mostP x c x.length).getD 0 0 + (mostP x c x.length).getD 1 0) = (mostP x c x.length).getD 0 0 + (mostP x c x.length).getD 1 0 := wrap_id (by omega) (by omega)
        have hw2 : IntKind.i64.wrap ((mostP x c x.length).getD 0 0 + (mostP x c x.length).getD 1 0 + (mostP x c x.length).getD 2 0) = ((degP (mostP x c x.length) : Nat) : Int) := by
          rw [wrap_id (by omega) (by omega)]; unfold degP; omega
        have hd7 : degP (mostP x c x.length) < 7 := by unfold degP; omega
        simp (maxSteps := 5000000) -dsimp only [↓gp, gq, reduceCtorEq, Nat.reduceEqDiff, Nat.reduceLT, Nat.reduceLeDiff, Nat.reduceAdd, Nat.reduceMul, Nat.reduceSub, Nat.reduceBEq, Int.reduceToNat, Int.reduceLE, Int.reduceLT, Int.reduceNeg, Nat.reduceMod, sid_ne1, sid_ne2, sid_inj, sid_mod, gT, TK.isInt, TK.agg, Array.toList, h1b, r1b, h3b, r13b, h4b, h5b, r23b, h6b, hw1, hw2]
        refine ⟨fun h => absurd h (Nat.lt_irrefl _), fun _ => ⟨by kernel_rfl, by omega, by omega, by omega, by omega, by omega, by omega, by kernel_rfl, by omega, by omega, askK_of (c_spec_l2Size c (by omega)) ?_⟩⟩
        simp (maxSteps := 5000000) -dsimp only [↓gp, gq, reduceCtorEq, Nat.reduceEqDiff, Nat.reduceLT, Nat.reduceLeDiff, Nat.reduceAdd, Nat.reduceMul, Nat.reduceSub, Nat.reduceBEq, Int.reduceToNat, Int.reduceLE, Int.reduceLT, Int.reduceNeg, Nat.reduceMod, sid_ne1, sid_ne2, sid_inj, sid_mod, gT, TK.isInt, TK.agg, Array.toList, h1b, r1b, h3b, r13b, h4b, h5b, r23b, h6b, hw1, hw2]
        have hob := outP_bd x c (degP (mostP x c x.length))
        have ht : ((popN c : Nat) : Int).tmod 2 = ((popN c % 2 : Nat) : Int) := by rw [Int.tmod_eq_emod_of_nonneg (by omega)]; omega
        have e : (outP x c).set (degP (mostP x c x.length)) (IntKind.i64.wrap (IntKind.i64.wrap ((outP x c).getD (degP (mostP x c x.length)) 0 + 1) - IntKind.i64.wrap (2 * ((popN c : Nat) : Int).tmod 2))) = outP x (c + 1) := by
          rw [ht, wrap_id (n := (outP x c).getD (degP (mostP x c x.length)) 0 + 1) (by omega) (by omega), wrap_id (n := 2 * _) (by omega) (by omega), wrap_id (by omega) (by omega)]
          have : (outP x c).getD (degP (mostP x c x.length)) 0 + 1 - 2 * ((popN c % 2 : Nat) : Int) = (outP x c).getD (degP (mostP x c x.length)) 0 + sgnN c := by unfold sgnN; omega
          rw [this]; rfl
        exact ⟨by decide, by omega, by omega, by kernel_rfl, again_of ((c + 1, v)) (by refine ⟨?_, ?_, ?_, ?_, ?_, by dsimp only; omega⟩ <;> (first | (simp (maxSteps := 5000000) -dsimp only [gr, Nat.reduceEqDiff, Nat.reduceLT, Nat.reduceAdd, Nat.reduceMod, Nat.reduceBEq, sid_mod, sid_ne1, sid_ne2, sid_inj, h1a, r1a, h3a, r13a, h4a, h1b, r1b, h3b, r13b, h4b, h5b, r23b, h6b, e, wrap_nat hs (by omega)]; first | done | rfl | (simp; done)) | assumption | rfl)) (by first | omega | (simp only; omega) | (dsimp only; omega) | (show _ < _; simp; omega))⟩
    · have hc2 : c = N := by omega
      subst hc2
      simp (maxSteps := 5000000) -dsimp only [↓gp, gq, reduceCtorEq, Nat.reduceEqDiff, Nat.reduceLT, Nat.reduceLeDiff, Nat.reduceAdd, Nat.reduceMul, Nat.reduceSub, Nat.reduceBEq, Int.reduceToNat, Int.reduceLE, Int.reduceLT, Int.reduceNeg, Nat.reduceMod, sid_ne1, sid_ne2, sid_inj, sid_mod, gT, TK.isInt, TK.agg, Array.toList, h1a, r1a, h3a, r13a, h4a, hsh, hun]
      exact fun h => absurd h (Nat.lt_irrefl _)
theorem powS_len (x : List (List Int)) : (powS x).length ≤ 1048576 := by
  unfold powS; split
  · rw [outP_len]; decide
  · decide
theorem c_impl_PowerSums (x : List (List Int)) : AC Try.prog 19 [.ag [int2 x]] (.fr 3 1 (iL (powS x))) := by
  refine AC.go (rs := [.tmp 2]) T_ok mixed Try.func19 rfl rfl rfl (by kernel_rfl) fun hl => ?_
  simp only [lens_cons, lens_nil, and_true, lens2, List.mem_singleton, forall_eq, lens1_iLL] at hl
  simp (maxSteps := 5000000) -dsimp only [↓gp, gq, reduceCtorEq, Nat.reduceEqDiff, Nat.reduceLT, Nat.reduceLeDiff, Nat.reduceAdd, Nat.reduceMul, Nat.reduceSub, Nat.reduceBEq, Int.reduceToNat, Int.reduceLE, Int.reduceLT, Int.reduceNeg, Nat.reduceMod, sid_ne1, sid_ne2, sid_inj, sid_mod, gT, TK.isInt, TK.agg, Array.toList]
  refine askK_of (c_impl_ArePowers x) ?_
  rw [← p19_21]
  simp (maxSteps := 5000000) -dsimp only [↓gp, gq, reduceCtorEq, Nat.reduceEqDiff, Nat.reduceLT, Nat.reduceLeDiff, Nat.reduceAdd, Nat.reduceMul, Nat.reduceSub, Nat.reduceBEq, Int.reduceToNat, Int.reduceLE, Int.reduceLT, Int.reduceNeg, Nat.reduceMod, sid_ne1, sid_ne2, sid_inj, sid_mod, gT, TK.isInt, TK.agg, Array.toList]
  refine ⟨fun hp => ?_, fun hp => ?_⟩
  · rw [powS, if_neg (by intro h; rw [h] at hp; cases hp)]; rfl
  · have hp1 : p19 x = true := by simpa using hp
    obtain ⟨hok, hx5⟩ := p19_all hp1
    have hx3 : ∀ k, k < x.length → (x.getD k []).length = 3 := fun k hk => isPow_3 (hok k hk).1
    have hsh : ishl .i64 1 (x.length : Int) = ((2 ^ x.length : Nat) : Int) := ishl_small (by omega)
    have hun : IntKind.u64.wrap (x.length : Int) = (x.length : Int) := uwrap_id (by omega)
    have h64 := two_pow_le (m := x.length) (by omega)
    have hS0 : powS x = outP x (2 ^ x.length) := if_pos hp1
    have hsg := fun s (h : s < 2 ^ x.length) => sgnP_all x.length hx5 s h
    rw [hS0]
    generalize 2 ^ x.length = N at *
    refine ⟨by decide, ?_⟩
    refine loop_of (fun (za : Nat × Nat) s => match za with | (c, v) => s.sl 1 = .ref 1 1 0 ∧ s.rw 1 = ⟨1, .box 27 [int2 x]⟩ ∧ s.sl 3 = .own 14 v ∧ s.rw 14 = ⟨v, .sli 3 1 false (iL (outP x c))⟩ ∧ s.sl 4 = int c ∧ (c ≤ N)) (fun (c, v) => N - c) ((0, 1)) (by refine ⟨?_, ?_, ?_, ?_, ?_, by omega⟩ <;> (first | (simp (maxSteps := 5000000) -dsimp only [gr, Nat.reduceEqDiff, Nat.reduceLT, Nat.reduceAdd, Nat.reduceMod, Nat.reduceBEq, sid_mod, sid_ne1, sid_ne2, sid_inj, outP]; first | done | rfl | (simp; done)) | assumption | rfl)) ?_
    intro (c, v) sa ⟨h1a, r1a, h3a, r14a, h4a, hIa⟩
    by_cases hs : c < N
    · simp (maxSteps := 5000000) -dsimp only [↓gp, gq, reduceCtorEq, Nat.reduceEqDiff, Nat.reduceLT, Nat.reduceLeDiff, Nat.reduceAdd, Nat.reduceMul, Nat.reduceSub, Nat.reduceBEq, Int.reduceToNat, Int.reduceLE, Int.reduceLT, Int.reduceNeg, Nat.reduceMod, sid_ne1, sid_ne2, sid_inj, sid_mod, gT, TK.isInt, TK.agg, Array.toList, h1a, r1a, h3a, r14a, h4a, hsh, hun]
      refine ⟨fun _ => ?_, fun h => absurd hs h⟩
      refine loop_of (fun (k : Nat) s => s.sl 1 = .ref 1 1 0 ∧ s.rw 1 = ⟨1, .box 27 [int2 x]⟩ ∧ s.sl 3 = .own 14 v ∧ s.rw 14 = ⟨v, .sli 3 1 false (iL (outP x c))⟩ ∧ s.sl 4 = int c ∧ s.sl 5 = .ref 5 ((sa.rw 5).ver + 1) 0 ∧ s.rw 5 = ⟨(sa.rw 5).ver + 1, .box 82 (iL (mostP x c k))⟩ ∧ s.sl 6 = int (sgnP c k) ∧ s.sl 25 = int2 x ∧ s.sl 26 = int x.length ∧ s.sl 27 = int k ∧ (k ≤ x.length)) (fun k => x.length - k) (0) (by refine ⟨?_, ?_, ?_, ?_, ?_, ?_, ?_, ?_, ?_, ?_, ?_, by omega⟩ <;> (first | (simp (maxSteps := 5000000) -dsimp only [gr, Nat.reduceEqDiff, Nat.reduceLT, Nat.reduceAdd, Nat.reduceMod, Nat.reduceBEq, sid_mod, sid_ne1, sid_ne2, sid_inj, h1a, r1a, h3a, r14a, h4a, mostP, sgnP]; first | done | rfl | (simp; done)) | assumption | rfl)) ?_
      intro k sb ⟨h1b, r1b, h3b, r14b, h4b, h5b, r5b, h6b, h25b, h26b, h27b, hIb⟩
      by_cases hk : k < x.length
      · have hunk : IntKind.u64.wrap (k : Int) = (k : Int) := uwrap_id (by omega)
        have hbit := bit_zero c (by omega) k (by omega)
        have hml := mostP_len x c k
        have hsb := sgnP_bd c k
        have hng : IntKind.i64.wrap (0 - sgnP c k) = -sgnP c k := by rw [wrap_id (by omega) (by omega)]; omega
        simp (maxSteps := 5000000) -dsimp only [↓gp, gq, reduceCtorEq, Nat.reduceEqDiff, Nat.reduceLT, Nat.reduceLeDiff, Nat.reduceAdd, Nat.reduceMul, Nat.reduceSub, Nat.reduceBEq, Int.reduceToNat, Int.reduceLE, Int.reduceLT, Int.reduceNeg, Nat.reduceMod, sid_ne1, sid_ne2, sid_inj, sid_mod, gT, TK.isInt, TK.agg, Array.toList, h1b, r1b, h3b, r14b, h4b, h5b, r5b, h6b, h25b, h26b, h27b, hunk, hbit, hng]
        refine ⟨fun _ => ⟨hk, hk, fun hb => ?_, fun hb => ?_⟩, fun h => absurd hk h⟩
        · have hb : c.testBit k = false := by simpa using hb
          have e1 : mostP x c (k + 1) = mostP x c k := if_neg (by rw [hb]; decide)
          have e2 : sgnP c (k + 1) = sgnP c k := if_neg (by rw [hb]; decide)
          exact again_of (k + 1) (by refine ⟨?_, ?_, ?_, ?_, ?_, ?_, ?_, ?_, ?_, ?_, ?_, by omega⟩ <;> (first | (simp (maxSteps := 5000000) -dsimp only [gr, Nat.reduceEqDiff, Nat.reduceLT, Nat.reduceAdd, Nat.reduceMod, Nat.reduceBEq, sid_mod, sid_ne1, sid_ne2, sid_inj, h1b, r1b, h3b, r14b, h4b, h5b, r5b, h6b, h25b, h26b, h27b, e1, e2, wrap_nat hk (show x.length ≤ 9223372036854775807 by omega)]; first | done | rfl | (simp; done)) | assumption | rfl)) (by first | omega | (simp only; omega) | (dsimp only; omega) | (show _ < _; simp; omega))
        · have hb : c.testBit k = true := by simpa using hb
          have hrl := hx3 k hk
          refine loop_of (fun (i : Nat) s => s.sl 1 = .ref 1 1 0 ∧ s.rw 1 = ⟨1, .box 27 [int2 x]⟩ ∧ s.sl 3 = .own 14 v ∧ s.rw 14 = ⟨v, .sli 3 1 false (iL (outP x c))⟩ ∧ s.sl 4 = int c ∧ s.sl 5 = .ref 5 ((sa.rw 5).ver + 1) 0 ∧ s.rw 5 = ⟨(sa.rw 5).ver + 1, .box 82 (iL (mxI (mostP x c k) (x.getD k []) i))⟩ ∧ s.sl 6 = int (-sgnP c k) ∧ s.sl 25 = int2 x ∧ s.sl 26 = int x.length ∧ s.sl 27 = int k ∧ s.sl 40 = ints (x.getD k []) ∧ s.sl 41 = int 3 ∧ s.sl 42 = int i ∧ (i ≤ 3)) (fun i => 3 - i) (0) (by refine ⟨?_, ?_, ?_, ?_, ?_, ?_, ?_, ?_, ?_, ?_, ?_, ?_, ?_, ?_, by omega⟩ <;> (first | (simp (maxSteps := 5000000) -dsimp only [gr, Nat.reduceEqDiff, Nat.reduceLT, Nat.reduceAdd, Nat.reduceMod, Nat.reduceBEq, sid_mod, sid_ne1, sid_ne2, sid_inj, h1b, r1b, h3b, r14b, h4b, h5b, r5b, h6b, h25b, h26b, h27b, mxI_zero hml, hrl]; first | done | rfl | (simp; done)) | assumption | rfl)) ?_
          intro i sc ⟨h1c, r1c, h3c, r14c, h4c, h5c, r5c, h6c, h25c, h26c, h27c, h40c, h41c, h42c, hIc⟩
          have hxl := mxI_len (mostP x c k) (x.getD k []) i
          have hgi : i < 3 → (mxI (mostP x c k) (x.getD k []) i).set i (max ((mxI (mostP x c k) (x.getD k []) i).getD i 0) ((x.getD k []).getD i 0)) = mxI (mostP x c k) (x.getD k []) (i + 1) := fun h => by
            rw [mxI_getD _ _ _ h, if_neg (Nat.lt_irrefl _), mxI_set _ _ h]
          simp (maxSteps := 5000000) -dsimp only [↓gp, gq, reduceCtorEq, Nat.reduceEqDiff, Nat.reduceLT, Nat.reduceLeDiff, Nat.reduceAdd, Nat.reduceMul, Nat.reduceSub, Nat.reduceBEq, Int.reduceToNat, Int.reduceLE, Int.reduceLT, Int.reduceNeg, Nat.reduceMod, sid_ne1, sid_ne2, sid_inj, sid_mod, gT, TK.isInt, TK.agg, Array.toList, h1c, r1c, h3c, r14c, h4c, h5c, r5c, h6c, h25c, h26c, h27c, h40c, h41c, h42c]
          refine ⟨fun h3 => ?_, fun h3 => ?_⟩
          · have h3 : i < 3 := by omega
            have em : (if (x.getD k []).getD i 0 > (mxI (mostP x c k) (x.getD k []) i).getD i 0 then (x.getD k []).getD i 0 else (mxI (mostP x c k) (x.getD k []) i).getD i 0) = max ((mxI (mostP x c k) (x.getD k []) i).getD i 0) ((x.getD k []).getD i 0) := by split <;> omega
            have e := hgi h3
            rw [← em] at e
            exact ⟨by omega, by omega, h3, by omega, h3, by omega, again_of (i + 1) (by refine ⟨?_, ?_, ?_, ?_, ?_, ?_, ?_, ?_, ?_, ?_, ?_, ?_, ?_, ?_, by omega⟩ <;> (first | (simp (maxSteps := 5000000) -dsimp only [gr, Nat.reduceEqDiff, Nat.reduceLT, Nat.reduceAdd, Nat.reduceMod, Nat.reduceBEq, sid_mod, sid_ne1, sid_ne2, sid_inj, h1c, r1c, h3c, r14c, h4c, h5c, r5c, h6c, h25c, h26c, h27c, h40c, h41c, h42c, e, wrap_nat h3 (by omega)]; first | done | rfl | (simp; done)) | assumption | rfl)) (by first | omega | (simp only; omega) | (dsimp only; omega) | (show _ < _; simp; omega))⟩
          · have h0 : i = 3 := by omega
            subst h0
            have e1 : mostP x c (k + 1) = mxI (mostP x c k) (x.getD k []) 3 := if_pos hb
            have e2 : sgnP c (k + 1) = -sgnP c k := if_pos hb
            exact again_of (k + 1) (by refine ⟨?_, ?_, ?_, ?_, ?_, ?_, ?_, ?_, ?_, ?_, ?_, by omega⟩ <;> (first | (simp (maxSteps := 5000000) -dsimp only [gr, Nat.reduceEqDiff, Nat.reduceLT, Nat.reduceAdd, Nat.reduceMod, Nat.reduceBEq, sid_mod, sid_ne1, sid_ne2, sid_inj, h1b, r1b, h3b, r14b, h4b, h5b, r5b, h6b, h25b, h26b, h27b, h1c, r1c, h3c, r14c, h4c, h5c, r5c, h6c, h25c, h26c, h27c, h40c, h41c, h42c, e1, e2, wrap_nat hk (show x.length ≤ 9223372036854775807 by omega)]; first | done | rfl | (simp; done)) | assumption | rfl)) (by first | omega | (simp only; omega) | (dsimp only; omega) | (show _ < _; simp; omega))
      · have hkl : k = x.length := by omega
        subst hkl
        have hml := mostP_len x c x.length
        have hol := outP_len x c
        have hbd := mostP_bd hp1 c x.length (Nat.le_refl _)
        have b0 := hbd 0 (by omega)
        have b1 := hbd 1 (by omega)
        have b2 := hbd 2 (by omega)
        have hw1 : IntKind.i64.wrap ((mostP x c x.length).getD 0 0 + (mostP x c x.length).getD 1 0) = (mostP x c x.length).getD 0 0 + (mostP x c x.length).getD 1 0 := wrap_id (by omega) (by omega)
        have hw2 : IntKind.i64.wrap ((mostP x c x.length).getD 0 0 + (mostP x c x.length).getD 1 0 + (mostP x c x.length).getD 2 0) = ((degP (mostP x c x.length) : Nat) : Int) := by
          rw [wrap_id (by omega) (by omega)]; unfold degP; omega
        have hd7 : degP (mostP x c x.length) < 7 := by unfold degP; omega
        have hob := outP_bd x c (degP (mostP x c x.length))
        have hsb := sgnN_bd c
        have e : (outP x c).set (degP (mostP x c x.length)) (IntKind.i64.wrap ((outP x c).getD (degP (mostP x c x.length)) 0 + sgnP c x.length)) = outP x (c + 1) := by
          rw [hsg c hs, wrap_id (by omega) (by omega)]; rfl
        simp (maxSteps := 5000000) -dsimp only [↓gp, gq, reduceCtorEq, Nat.reduceEqDiff, Nat.reduceLT, Nat.reduceLeDiff, Nat.reduceAdd, Nat.reduceMul, Nat.reduceSub, Nat.reduceBEq, Int.reduceToNat, Int.reduceLE, Int.reduceLT, Int.reduceNeg, Nat.reduceMod, sid_ne1, sid_ne2, sid_inj, sid_mod, gT, TK.isInt, TK.agg, Array.toList, h1b, r1b, h3b, r14b, h4b, h5b, r5b, h6b, h25b, h26b, h27b, hw1, hw2, Nat.lt_irrefl, decide_false]
        exact ⟨by decide, by omega, by decide, by omega, by decide, by omega, by omega, by omega, by omega, by omega, again_of ((c + 1, v)) (by refine ⟨?_, ?_, ?_, ?_, ?_, by dsimp only; omega⟩ <;> (first | (simp (maxSteps := 5000000) -dsimp only [gr, Nat.reduceEqDiff, Nat.reduceLT, Nat.reduceAdd, Nat.reduceMod, Nat.reduceBEq, sid_mod, sid_ne1, sid_ne2, sid_inj, h1a, r1a, h3a, r14a, h4a, h1b, r1b, h3b, r14b, h4b, h5b, r5b, h6b, h25b, h26b, h27b, e, wrap_nat hs (by omega)]; first | done | rfl | (simp; done)) | assumption | rfl)) (by first | omega | (simp only; omega) | (dsimp only; omega) | (show _ < _; simp; omega))⟩
    · have hc2 : c = N := by omega
      subst hc2
      simp (maxSteps := 5000000) -dsimp only [↓gp, gq, reduceCtorEq, Nat.reduceEqDiff, Nat.reduceLT, Nat.reduceLeDiff, Nat.reduceAdd, Nat.reduceMul, Nat.reduceSub, Nat.reduceBEq, Int.reduceToNat, Int.reduceLE, Int.reduceLT, Int.reduceNeg, Nat.reduceMod, sid_ne1, sid_ne2, sid_inj, sid_mod, gT, TK.isInt, TK.agg, Array.toList, h1a, r1a, h3a, r14a, h4a, hsh, hun]
      exact fun h => absurd h (Nat.lt_irrefl _)
end Go.Proofs.Ytnfpeinbdfmlnaa
