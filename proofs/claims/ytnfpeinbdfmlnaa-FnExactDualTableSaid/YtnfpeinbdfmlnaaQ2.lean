/- DERIVED by an AI agent. -/
import Derived.Test.YtnfpeinbdfmlnaaQ1
import Derived.Test.YtnfpeinbdfmlnaaP1
namespace Go.Proofs.Ytnfpeinbdfmlnaa
open Go.Abs
set_option linter.unusedSimpArgs false
set_option linter.unusedVariables false

theorem c_spec_l2Before {a b : Int} (ha : 0 ≤ a ∧ a < 64) (hb : 0 ≤ b ∧ b < 64) : AC Try.prog 150 [int a, int b] (.im (bool (befS a b))) := by
  refine AC.go (rs := [.tmp 4]) T_ok mixed Try.func150 rfl rfl rfl (by kernel_rfl) fun hl => ?_
  simp (maxSteps := 5000000) -dsimp only [↓gp, gq, reduceCtorEq, Nat.reduceEqDiff, Nat.reduceLT, Nat.reduceLeDiff, Nat.reduceAdd, Nat.reduceMul, Nat.reduceSub, Nat.reduceBEq, Int.reduceToNat, Int.reduceLE, Int.reduceLT, Int.reduceNeg, Nat.reduceMod, sid_ne1, sid_ne2, sid_inj, sid_mod, gT, TK.isInt, TK.agg, Array.toList]
  refine askK_of (c_spec_l2Sizei ha.1 (by omega)) ?_
  simp (maxSteps := 5000000) -dsimp only [↓gp, gq, reduceCtorEq, Nat.reduceEqDiff, Nat.reduceLT, Nat.reduceLeDiff, Nat.reduceAdd, Nat.reduceMul, Nat.reduceSub, Nat.reduceBEq, Int.reduceToNat, Int.reduceLE, Int.reduceLT, Int.reduceNeg, Nat.reduceMod, sid_ne1, sid_ne2, sid_inj, sid_mod, gT, TK.isInt, TK.agg, Array.toList]
  refine askK_of (c_spec_l2Sizei hb.1 (by omega)) ?_
  simp (maxSteps := 5000000) -dsimp only [↓gp, gq, reduceCtorEq, Nat.reduceEqDiff, Nat.reduceLT, Nat.reduceLeDiff, Nat.reduceAdd, Nat.reduceMul, Nat.reduceSub, Nat.reduceBEq, Int.reduceToNat, Int.reduceLE, Int.reduceLT, Int.reduceNeg, Nat.reduceMod, sid_ne1, sid_ne2, sid_inj, sid_mod, gT, TK.isInt, TK.agg, Array.toList]
  unfold befS szOf
  rw [if_pos ha, if_pos hb, decide_eq_true ha, decide_eq_true hb]
  simp only [Bool.true_and]
  refine ⟨fun h => ⟨fun h2 => ?_, fun h2 => ?_⟩, fun h => ?_⟩
  · rw [if_pos (by simpa using h2)]
  · rw [if_neg (by simpa using h2)]
    exact decide_eq_false (by omega)
  · rw [if_neg (by omega)]
    exact decide_eq_true (by omega)
/-- Sets of a number of points, none within another, in order. -/
def cxAt (n : Int) (xs : List Int) (k : Nat) : Prop := inSet n (xs.getD k 0) = true ∧ (0 < k → befS (xs.getD (k - 1) 0) (xs.getD k 0) = true) ∧ ∀ i, i < k → iand .i64 (xs.getD i 0) (xs.getD k 0) ≠ xs.getD i 0
def cxP (n : Int) (xs : List Int) : Prop := 1 ≤ n ∧ n ≤ 6 ∧ ∀ k, k < xs.length → cxAt n xs k
open Classical in
noncomputable def isCx (n : Int) (xs : List Int) : Bool := decide (cxP n xs)
open Classical in
theorem isCx_no {n : Int} {xs : List Int} (h : ¬ cxP n xs) : isCx n xs = false := decide_eq_false h
open Classical in
theorem isCx_yes {n : Int} {xs : List Int} (h : cxP n xs) : isCx n xs = true := decide_eq_true h
open Classical in
theorem isCx_iff {n : Int} {xs : List Int} : isCx n xs = true ↔ cxP n xs := decide_eq_true_iff
theorem c_spec_IsComplex (n : Int) (xs : List Int) : AC Try.prog 99 [.ag [int n, ints xs]] (.im (bool (isCx n xs))) := by
  refine AC.go (rs := [.tmp 2]) T_ok mixed Try.func99 rfl rfl rfl (by kernel_rfl) fun hl => ?_
  simp only [lens_cons, lens_nil, and_true, lens2_ag2, lens1_v, lens1_iL, true_and] at hl
  simp (maxSteps := 5000000) -dsimp only [↓gp, gq, reduceCtorEq, Nat.reduceEqDiff, Nat.reduceLT, Nat.reduceLeDiff, Nat.reduceAdd, Nat.reduceMul, Nat.reduceSub, Nat.reduceBEq, Int.reduceToNat, Int.reduceLE, Int.reduceLT, Int.reduceNeg, Nat.reduceMod, sid_ne1, sid_ne2, sid_inj, sid_mod, gT, TK.isInt, TK.agg, Array.toList]
  refine loop_of (fun (k : Nat) s => s.sl 1 = .ref 1 1 0 ∧ s.rw 1 = ⟨1, .box 57 [int n, ints xs]⟩ ∧ s.sl 3 = int k ∧ (k ≤ xs.length ∧ ∀ i, i < k → cxAt n xs i)) (fun k => xs.length - k) (0) (by refine ⟨?_, ?_, ?_, by simp⟩ <;> (first | (simp (maxSteps := 5000000) -dsimp only [gr, Nat.reduceEqDiff, Nat.reduceLT, Nat.reduceAdd, Nat.reduceMod, Nat.reduceBEq, sid_mod, sid_ne1, sid_ne2, sid_inj]; first | done | rfl | (simp; done)) | assumption | rfl)) ?_
  intro k sa ⟨h1a, r1a, h3a, hIa⟩
  obtain ⟨hk, hall⟩ := hIa
  have hw : IntKind.i64.wrap ((k : Int) - 1) = (k : Int) - 1 := wrap_id (by omega) (by omega)
  simp (maxSteps := 5000000) -dsimp only [↓gp, gq, reduceCtorEq, Nat.reduceEqDiff, Nat.reduceLT, Nat.reduceLeDiff, Nat.reduceAdd, Nat.reduceMul, Nat.reduceSub, Nat.reduceBEq, Int.reduceToNat, Int.reduceLE, Int.reduceLT, Int.reduceNeg, Nat.reduceMod, sid_ne1, sid_ne2, sid_inj, sid_mod, gT, TK.isInt, TK.agg, Array.toList, h1a, r1a, h3a, hw, toNat_pred]
  refine ⟨fun h => ⟨by kernel_rfl, h, h, askK_of (c_spec_IsSet _ _) ?_⟩, fun h => askK_of (c_spec_l1In _ _ _) ?_⟩
  · simp (maxSteps := 5000000) -dsimp only [↓gp, gq, reduceCtorEq, Nat.reduceEqDiff, Nat.reduceLT, Nat.reduceLeDiff, Nat.reduceAdd, Nat.reduceMul, Nat.reduceSub, Nat.reduceBEq, Int.reduceToNat, Int.reduceLE, Int.reduceLT, Int.reduceNeg, Nat.reduceMod, sid_ne1, sid_ne2, sid_inj, sid_mod, gT, TK.isInt, TK.agg, Array.toList, h1a, r1a, h3a, hw, toNat_pred]
    refine ⟨fun hs => ⟨fun h0 => ⟨by omega, by omega, by omega, h, h, ?_⟩, fun h0 => ?_⟩, fun hs => ?_⟩
    · have hs : inSet n (xs.getD k 0) = true := by rwa [Bool.not_eq_false'] at hs
      have hb := inSet_lt hs
      have hb' := inSet_lt (hall (k - 1) (by omega)).1
      refine askK_of (c_spec_l2Before hb' hb) ?_
      simp (maxSteps := 5000000) -dsimp only [↓gp, gq, reduceCtorEq, Nat.reduceEqDiff, Nat.reduceLT, Nat.reduceLeDiff, Nat.reduceAdd, Nat.reduceMul, Nat.reduceSub, Nat.reduceBEq, Int.reduceToNat, Int.reduceLE, Int.reduceLT, Int.reduceNeg, Nat.reduceMod, sid_ne1, sid_ne2, sid_inj, sid_mod, gT, TK.isInt, TK.agg, Array.toList, h1a, r1a, h3a, hw, toNat_pred]
      refine ⟨fun hbef => isCx_no fun hg => ?_, fun hbef => ?_⟩
      · have := (hg.2.2 k h).2.1 (by omega)
        rw [this] at hbef; cases hbef
      · have hbef : 0 < k → befS (xs.getD (k - 1) 0) (xs.getD k 0) = true := fun _ => by rwa [Bool.not_eq_false'] at hbef
        refine loop_of (fun (i : Nat) s => s.sl 1 = .ref 1 1 0 ∧ s.rw 1 = ⟨1, .box 57 [int n, ints xs]⟩ ∧ s.sl 3 = int k ∧ s.sl 4 = int i ∧ (i ≤ k ∧ ∀ j, j < i → iand .i64 (xs.getD j 0) (xs.getD k 0) ≠ xs.getD j 0)) (fun i => k - i) (0) (by refine ⟨?_, ?_, ?_, ?_, by simp⟩ <;> (first | (simp (maxSteps := 5000000) -dsimp only [gr, Nat.reduceEqDiff, Nat.reduceLT, Nat.reduceAdd, Nat.reduceMod, Nat.reduceBEq, sid_mod, sid_ne1, sid_ne2, sid_inj, h1a, r1a, h3a]; first | done | rfl | (simp; done)) | assumption | rfl)) ?_
        intro i sb ⟨h1b, r1b, h3b, h4b, hIb⟩
        obtain ⟨hik, hin⟩ := hIb
        simp (maxSteps := 5000000) -dsimp only [↓gp, gq, reduceCtorEq, Nat.reduceEqDiff, Nat.reduceLT, Nat.reduceLeDiff, Nat.reduceAdd, Nat.reduceMul, Nat.reduceSub, Nat.reduceBEq, Int.reduceToNat, Int.reduceLE, Int.reduceLT, Int.reduceNeg, Nat.reduceMod, sid_ne1, sid_ne2, sid_inj, sid_mod, gT, TK.isInt, TK.agg, Array.toList, h1b, r1b, h3b, h4b]
        refine ⟨fun hi => ⟨by kernel_rfl, by omega, by omega, h, h, by omega, by omega, fun he => ?_, fun he => again_of (i + 1) ⟨(by (first | (simp (maxSteps := 5000000) -dsimp only [gr, Nat.reduceEqDiff, Nat.reduceLT, Nat.reduceAdd, Nat.reduceMod, Nat.reduceBEq, sid_mod, sid_ne1, sid_ne2, sid_inj, h1b, r1b, h3b, h4b, wrap_nat hi (by omega)]; first | done | rfl | (simp; done)) | assumption | rfl)), (by (first | (simp (maxSteps := 5000000) -dsimp only [gr, Nat.reduceEqDiff, Nat.reduceLT, Nat.reduceAdd, Nat.reduceMod, Nat.reduceBEq, sid_mod, sid_ne1, sid_ne2, sid_inj, h1b, r1b, h3b, h4b, wrap_nat hi (by omega)]; first | done | rfl | (simp; done)) | assumption | rfl)), (by (first | (simp (maxSteps := 5000000) -dsimp only [gr, Nat.reduceEqDiff, Nat.reduceLT, Nat.reduceAdd, Nat.reduceMod, Nat.reduceBEq, sid_mod, sid_ne1, sid_ne2, sid_inj, h1b, r1b, h3b, h4b, wrap_nat hi (by omega)]; first | done | rfl | (simp; done)) | assumption | rfl)), (by (first | (simp (maxSteps := 5000000) -dsimp only [gr, Nat.reduceEqDiff, Nat.reduceLT, Nat.reduceAdd, Nat.reduceMod, Nat.reduceBEq, sid_mod, sid_ne1, sid_ne2, sid_inj, h1b, r1b, h3b, h4b, wrap_nat hi (by omega)]; first | done | rfl | (simp; done)) | assumption | rfl)), ⟨by omega, fun j hj => ?_⟩⟩ (by first | omega | (simp only; omega) | (dsimp only; omega) | (show _ < _; simp; omega))⟩, fun hi => again_of (k + 1) ⟨(by (first | (simp (maxSteps := 5000000) -dsimp only [gr, Nat.reduceEqDiff, Nat.reduceLT, Nat.reduceAdd, Nat.reduceMod, Nat.reduceBEq, sid_mod, sid_ne1, sid_ne2, sid_inj, h1a, r1a, h3a, h1b, r1b, h3b, h4b, wrap_nat h hl]; first | done | rfl | (simp; done)) | assumption | rfl)), (by (first | (simp (maxSteps := 5000000) -dsimp only [gr, Nat.reduceEqDiff, Nat.reduceLT, Nat.reduceAdd, Nat.reduceMod, Nat.reduceBEq, sid_mod, sid_ne1, sid_ne2, sid_inj, h1a, r1a, h3a, h1b, r1b, h3b, h4b, wrap_nat h hl]; first | done | rfl | (simp; done)) | assumption | rfl)), (by (first | (simp (maxSteps := 5000000) -dsimp only [gr, Nat.reduceEqDiff, Nat.reduceLT, Nat.reduceAdd, Nat.reduceMod, Nat.reduceBEq, sid_mod, sid_ne1, sid_ne2, sid_inj, h1a, r1a, h3a, h1b, r1b, h3b, h4b, wrap_nat h hl]; first | done | rfl | (simp; done)) | assumption | rfl)), ⟨by omega, fun j hj => ?_⟩⟩ (by first | omega | (simp only; omega) | (dsimp only; omega) | (show _ < _; simp; omega))⟩
        · exact isCx_no fun hg => (hg.2.2 k h).2.2 i hi (by simpa using he)
        · rcases Nat.lt_succ_iff_lt_or_eq.1 hj with hj | rfl
          · exact hin j hj
          · simpa using he
        · rcases Nat.lt_succ_iff_lt_or_eq.1 hj with hj | rfl
          · exact hall j hj
          · exact ⟨hs, hbef, fun i hi => hin i (by omega)⟩
    · have hs : inSet n (xs.getD k 0) = true := by rwa [Bool.not_eq_false'] at hs
      have hbef : 0 < k → befS (xs.getD (k - 1) 0) (xs.getD k 0) = true := fun h => by omega
      refine loop_of (fun (i : Nat) s => s.sl 1 = .ref 1 1 0 ∧ s.rw 1 = ⟨1, .box 57 [int n, ints xs]⟩ ∧ s.sl 3 = int k ∧ s.sl 4 = int i ∧ (i ≤ k ∧ ∀ j, j < i → iand .i64 (xs.getD j 0) (xs.getD k 0) ≠ xs.getD j 0)) (fun i => k - i) (0) (by refine ⟨?_, ?_, ?_, ?_, by simp⟩ <;> (first | (simp (maxSteps := 5000000) -dsimp only [gr, Nat.reduceEqDiff, Nat.reduceLT, Nat.reduceAdd, Nat.reduceMod, Nat.reduceBEq, sid_mod, sid_ne1, sid_ne2, sid_inj, h1a, r1a, h3a]; first | done | rfl | (simp; done)) | assumption | rfl)) ?_
      intro i sb ⟨h1b, r1b, h3b, h4b, hIb⟩
      obtain ⟨hik, hin⟩ := hIb
      simp (maxSteps := 5000000) -dsimp only [↓gp, gq, reduceCtorEq, Nat.reduceEqDiff, Nat.reduceLT, Nat.reduceLeDiff, Nat.reduceAdd, Nat.reduceMul, Nat.reduceSub, Nat.reduceBEq, Int.reduceToNat, Int.reduceLE, Int.reduceLT, Int.reduceNeg, Nat.reduceMod, sid_ne1, sid_ne2, sid_inj, sid_mod, gT, TK.isInt, TK.agg, Array.toList, h1b, r1b, h3b, h4b]
      refine ⟨fun hi => ⟨by kernel_rfl, by omega, by omega, h, h, by omega, by omega, fun he => ?_, fun he => again_of (i + 1) ⟨(by (first | (simp (maxSteps := 5000000) -dsimp only [gr, Nat.reduceEqDiff, Nat.reduceLT, Nat.reduceAdd, Nat.reduceMod, Nat.reduceBEq, sid_mod, sid_ne1, sid_ne2, sid_inj, h1b, r1b, h3b, h4b, wrap_nat hi (by omega)]; first | done | rfl | (simp; done)) | assumption | rfl)), (by (first | (simp (maxSteps := 5000000) -dsimp only [gr, Nat.reduceEqDiff, Nat.reduceLT, Nat.reduceAdd, Nat.reduceMod, Nat.reduceBEq, sid_mod, sid_ne1, sid_ne2, sid_inj, h1b, r1b, h3b, h4b, wrap_nat hi (by omega)]; first | done | rfl | (simp; done)) | assumption | rfl)), (by (first | (simp (maxSteps := 5000000) -dsimp only [gr, Nat.reduceEqDiff, Nat.reduceLT, Nat.reduceAdd, Nat.reduceMod, Nat.reduceBEq, sid_mod, sid_ne1, sid_ne2, sid_inj, h1b, r1b, h3b, h4b, wrap_nat hi (by omega)]; first | done | rfl | (simp; done)) | assumption | rfl)), (by (first | (simp (maxSteps := 5000000) -dsimp only [gr, Nat.reduceEqDiff, Nat.reduceLT, Nat.reduceAdd, Nat.reduceMod, Nat.reduceBEq, sid_mod, sid_ne1, sid_ne2, sid_inj, h1b, r1b, h3b, h4b, wrap_nat hi (by omega)]; first | done | rfl | (simp; done)) | assumption | rfl)), ⟨by omega, fun j hj => ?_⟩⟩ (by first | omega | (simp only; omega) | (dsimp only; omega) | (show _ < _; simp; omega))⟩, fun hi => again_of (k + 1) ⟨(by (first | (simp (maxSteps := 5000000) -dsimp only [gr, Nat.reduceEqDiff, Nat.reduceLT, Nat.reduceAdd, Nat.reduceMod, Nat.reduceBEq, sid_mod, sid_ne1, sid_ne2, sid_inj, h1a, r1a, h3a, h1b, r1b, h3b, h4b, wrap_nat h hl]; first | done | rfl | (simp; done)) | assumption | rfl)), (by (first | (simp (maxSteps := 5000000) -dsimp only [gr, Nat.reduceEqDiff, Nat.reduceLT, Nat.reduceAdd, Nat.reduceMod, Nat.reduceBEq, sid_mod, sid_ne1, sid_ne2, sid_inj, h1a, r1a, h3a, h1b, r1b, h3b, h4b, wrap_nat h hl]; first | done | rfl | (simp; done)) | assumption | rfl)), (by (first | (simp (maxSteps := 5000000) -dsimp only [gr, Nat.reduceEqDiff, Nat.reduceLT, Nat.reduceAdd, Nat.reduceMod, Nat.reduceBEq, sid_mod, sid_ne1, sid_ne2, sid_inj, h1a, r1a, h3a, h1b, r1b, h3b, h4b, wrap_nat h hl]; first | done | rfl | (simp; done)) | assumption | rfl)), ⟨by omega, fun j hj => ?_⟩⟩ (by first | omega | (simp only; omega) | (dsimp only; omega) | (show _ < _; simp; omega))⟩
      · exact isCx_no fun hg => (hg.2.2 k h).2.2 i hi (by simpa using he)
      · rcases Nat.lt_succ_iff_lt_or_eq.1 hj with hj | rfl
        · exact hin j hj
        · simpa using he
      · rcases Nat.lt_succ_iff_lt_or_eq.1 hj with hj | rfl
        · exact hall j hj
        · exact ⟨hs, hbef, fun i hi => hin i (by omega)⟩
    · have hs : inSet n (xs.getD k 0) = false := by rwa [Bool.not_eq_true'] at hs
      exact isCx_no fun hg => by have := (hg.2.2 k h).1; rw [hs] at this; cases this
  · simp (maxSteps := 5000000) -dsimp only [↓gp, gq, reduceCtorEq, Nat.reduceEqDiff, Nat.reduceLT, Nat.reduceLeDiff, Nat.reduceAdd, Nat.reduceMul, Nat.reduceSub, Nat.reduceBEq, Int.reduceToNat, Int.reduceLE, Int.reduceLT, Int.reduceNeg, Nat.reduceMod, sid_ne1, sid_ne2, sid_inj, sid_mod, gT, TK.isInt, TK.agg, Array.toList, h1a, r1a, h3a, hw, toNat_pred]
    by_cases hn : 1 ≤ n ∧ n ≤ 6
    · rw [isCx_yes ⟨hn.1, hn.2, fun k hk => hall k (by omega)⟩]
      simp [hn.1, hn.2]
    · rw [isCx_no fun hg => hn ⟨hg.1, hg.2.1⟩]
      symm
      rw [Bool.and_eq_false_iff, decide_eq_false_iff_not, decide_eq_false_iff_not]
      omega
theorem c_impl_isAntichain (n : Int) (xs : List Int) : AC Try.prog 115 [int n, ints xs] (.im (bool (isCx n xs))) := by
  refine AC.go (rs := [.tmp 4]) T_ok mixed Try.func115 rfl rfl rfl (by kernel_rfl) fun hl => ?_
  simp only [lens_cons, lens_nil, and_true, lens2_v, lens2_iL, true_and] at hl
  simp (maxSteps := 5000000) -dsimp only [↓gp, gq, reduceCtorEq, Nat.reduceEqDiff, Nat.reduceLT, Nat.reduceLeDiff, Nat.reduceAdd, Nat.reduceMul, Nat.reduceSub, Nat.reduceBEq, Int.reduceToNat, Int.reduceLE, Int.reduceLT, Int.reduceNeg, Nat.reduceMod, sid_ne1, sid_ne2, sid_inj, sid_mod, gT, TK.isInt, TK.agg, Array.toList]
  refine ⟨fun hn => ⟨fun h6 => isCx_no fun hg => by have := hg.2.1; omega, fun h6 => ?_⟩, fun hn => isCx_no fun hg => by have := hg.1; omega⟩
  refine loop_of (fun (k : Nat) s => s.sl 0 = int n ∧ s.sl 1 = ints xs ∧ s.sl 17 = ints xs ∧ s.sl 18 = int xs.length ∧ s.sl 19 = int k ∧ (k ≤ xs.length ∧ ∀ i, i < k → inSet n (xs.getD i 0) = true ∧ (0 < i → befS (xs.getD (i - 1) 0) (xs.getD i 0) = true))) (fun k => xs.length - k) (0) (by refine ⟨?_, ?_, ?_, ?_, ?_, by simp⟩ <;> (first | (simp (maxSteps := 5000000) -dsimp only [gr, Nat.reduceEqDiff, Nat.reduceLT, Nat.reduceAdd, Nat.reduceMod, Nat.reduceBEq, sid_mod, sid_ne1, sid_ne2, sid_inj]; first | done | rfl | (simp; done)) | assumption | rfl)) ?_
  intro k sa ⟨h0a, h1a, h17a, h18a, h19a, hIa⟩
  obtain ⟨hk, hall⟩ := hIa
  have hw : IntKind.i64.wrap ((k : Int) - 1) = (k : Int) - 1 := wrap_id (by omega) (by omega)
  simp (maxSteps := 5000000) -dsimp only [↓gp, gq, reduceCtorEq, Nat.reduceEqDiff, Nat.reduceLT, Nat.reduceLeDiff, Nat.reduceAdd, Nat.reduceMul, Nat.reduceSub, Nat.reduceBEq, Int.reduceToNat, Int.reduceLE, Int.reduceLT, Int.reduceNeg, Nat.reduceMod, sid_ne1, sid_ne2, sid_inj, sid_mod, gT, TK.isInt, TK.agg, Array.toList, h0a, h1a, h17a, h18a, h19a, hw, toNat_pred]
  refine ⟨fun h => ⟨h, h, askK_of (c_impl_IsSet _ _) ?_⟩, fun h => ?_⟩
  · simp (maxSteps := 5000000) -dsimp only [↓gp, gq, reduceCtorEq, Nat.reduceEqDiff, Nat.reduceLT, Nat.reduceLeDiff, Nat.reduceAdd, Nat.reduceMul, Nat.reduceSub, Nat.reduceBEq, Int.reduceToNat, Int.reduceLE, Int.reduceLT, Int.reduceNeg, Nat.reduceMod, sid_ne1, sid_ne2, sid_inj, sid_mod, gT, TK.isInt, TK.agg, Array.toList, h0a, h1a, h17a, h18a, h19a, hw, toNat_pred]
    refine ⟨fun hs => ?_, fun hs => ⟨fun h0 => ⟨by omega, by omega, by omega, askK_of (c_impl_BeforeSet _ _) ?_⟩, fun h0 => ?_⟩⟩
    · have hs : inSet n (xs.getD k 0) = false := by rwa [Bool.not_eq_true'] at hs
      exact isCx_no fun hg => by have := (hg.2.2 k h).1; rw [hs] at this; cases this
    · simp (maxSteps := 5000000) -dsimp only [↓gp, gq, reduceCtorEq, Nat.reduceEqDiff, Nat.reduceLT, Nat.reduceLeDiff, Nat.reduceAdd, Nat.reduceMul, Nat.reduceSub, Nat.reduceBEq, Int.reduceToNat, Int.reduceLE, Int.reduceLT, Int.reduceNeg, Nat.reduceMod, sid_ne1, sid_ne2, sid_inj, sid_mod, gT, TK.isInt, TK.agg, Array.toList, h0a, h1a, h17a, h18a, h19a, hw, toNat_pred]
      refine ⟨fun hb => isCx_no fun hg => ?_, fun hb => again_of (k + 1) ⟨(by (first | (simp (maxSteps := 5000000) -dsimp only [gr, Nat.reduceEqDiff, Nat.reduceLT, Nat.reduceAdd, Nat.reduceMod, Nat.reduceBEq, sid_mod, sid_ne1, sid_ne2, sid_inj, h0a, h1a, h17a, h18a, h19a, wrap_nat h hl]; first | done | rfl | (simp; done)) | assumption | rfl)), (by (first | (simp (maxSteps := 5000000) -dsimp only [gr, Nat.reduceEqDiff, Nat.reduceLT, Nat.reduceAdd, Nat.reduceMod, Nat.reduceBEq, sid_mod, sid_ne1, sid_ne2, sid_inj, h0a, h1a, h17a, h18a, h19a, wrap_nat h hl]; first | done | rfl | (simp; done)) | assumption | rfl)), (by (first | (simp (maxSteps := 5000000) -dsimp only [gr, Nat.reduceEqDiff, Nat.reduceLT, Nat.reduceAdd, Nat.reduceMod, Nat.reduceBEq, sid_mod, sid_ne1, sid_ne2, sid_inj, h0a, h1a, h17a, h18a, h19a, wrap_nat h hl]; first | done | rfl | (simp; done)) | assumption | rfl)), (by (first | (simp (maxSteps := 5000000) -dsimp only [gr, Nat.reduceEqDiff, Nat.reduceLT, Nat.reduceAdd, Nat.reduceMod, Nat.reduceBEq, sid_mod, sid_ne1, sid_ne2, sid_inj, h0a, h1a, h17a, h18a, h19a, wrap_nat h hl]; first | done | rfl | (simp; done)) | assumption | rfl)), (by (first | (simp (maxSteps := 5000000) -dsimp only [gr, Nat.reduceEqDiff, Nat.reduceLT, Nat.reduceAdd, Nat.reduceMod, Nat.reduceBEq, sid_mod, sid_ne1, sid_ne2, sid_inj, h0a, h1a, h17a, h18a, h19a, wrap_nat h hl]; first | done | rfl | (simp; done)) | assumption | rfl)), ⟨by omega, fun j hj => ?_⟩⟩ (by first | omega | (simp only; omega) | (dsimp only; omega) | (show _ < _; simp; omega))⟩
      · have := (hg.2.2 k h).2.1 (by omega)
        rw [this] at hb; cases hb
      · rcases Nat.lt_succ_iff_lt_or_eq.1 hj with hj | rfl
        · exact hall j hj
        · exact ⟨by rwa [Bool.not_eq_false'] at hs, fun _ => by rwa [Bool.not_eq_false'] at hb⟩
    · refine again_of (k + 1) ⟨(by (first | (simp (maxSteps := 5000000) -dsimp only [gr, Nat.reduceEqDiff, Nat.reduceLT, Nat.reduceAdd, Nat.reduceMod, Nat.reduceBEq, sid_mod, sid_ne1, sid_ne2, sid_inj, h0a, h1a, h17a, h18a, h19a, wrap_nat h hl]; first | done | rfl | (simp; done)) | assumption | rfl)), (by (first | (simp (maxSteps := 5000000) -dsimp only [gr, Nat.reduceEqDiff, Nat.reduceLT, Nat.reduceAdd, Nat.reduceMod, Nat.reduceBEq, sid_mod, sid_ne1, sid_ne2, sid_inj, h0a, h1a, h17a, h18a, h19a, wrap_nat h hl]; first | done | rfl | (simp; done)) | assumption | rfl)), (by (first | (simp (maxSteps := 5000000) -dsimp only [gr, Nat.reduceEqDiff, Nat.reduceLT, Nat.reduceAdd, Nat.reduceMod, Nat.reduceBEq, sid_mod, sid_ne1, sid_ne2, sid_inj, h0a, h1a, h17a, h18a, h19a, wrap_nat h hl]; first | done | rfl | (simp; done)) | assumption | rfl)), (by (first | (simp (maxSteps := 5000000) -dsimp only [gr, Nat.reduceEqDiff, Nat.reduceLT, Nat.reduceAdd, Nat.reduceMod, Nat.reduceBEq, sid_mod, sid_ne1, sid_ne2, sid_inj, h0a, h1a, h17a, h18a, h19a, wrap_nat h hl]; first | done | rfl | (simp; done)) | assumption | rfl)), (by (first | (simp (maxSteps := 5000000) -dsimp only [gr, Nat.reduceEqDiff, Nat.reduceLT, Nat.reduceAdd, Nat.reduceMod, Nat.reduceBEq, sid_mod, sid_ne1, sid_ne2, sid_inj, h0a, h1a, h17a, h18a, h19a, wrap_nat h hl]; first | done | rfl | (simp; done)) | assumption | rfl)), ⟨by omega, fun j hj => ?_⟩⟩ (by first | omega | (simp only; omega) | (dsimp only; omega) | (show _ < _; simp; omega))
      rcases Nat.lt_succ_iff_lt_or_eq.1 hj with hj | rfl
      · exact hall j hj
      · exact ⟨by rwa [Bool.not_eq_false'] at hs, fun _ => by omega⟩
  · have hall' : ∀ i, i < xs.length → inSet n (xs.getD i 0) = true ∧ (0 < i → befS (xs.getD (i - 1) 0) (xs.getD i 0) = true) := fun i hi => hall i (by omega)
    clear hw hall
    have hsub : ∀ i j, i < xs.length → j < xs.length → (iandnot .i64 (xs.getD i 0) (xs.getD j 0) = 0 ↔ iand .i64 (xs.getD i 0) (xs.getD j 0) = xs.getD i 0) := fun i j hi hj => andnot_zero (inSet_lt (hall' i hi).1) (inSet_lt (hall' j hj).1)
    refine loop_of (fun (i : Nat) s => s.sl 1 = ints xs ∧ s.sl 41 = ints xs ∧ s.sl 42 = int xs.length ∧ s.sl 43 = int i ∧ (i ≤ xs.length ∧ ∀ j k, j < i → j < k → k < xs.length → iand .i64 (xs.getD j 0) (xs.getD k 0) ≠ xs.getD j 0)) (fun i => xs.length - i) (0) (by refine ⟨?_, ?_, ?_, ?_, by simp⟩ <;> (first | (simp (maxSteps := 5000000) -dsimp only [gr, Nat.reduceEqDiff, Nat.reduceLT, Nat.reduceAdd, Nat.reduceMod, Nat.reduceBEq, sid_mod, sid_ne1, sid_ne2, sid_inj, h0a, h1a, h17a, h18a, h19a]; first | done | rfl | (simp; done)) | assumption | rfl)) ?_
    intro i sb ⟨h1b, h41b, h42b, h43b, hIb⟩
    obtain ⟨hi, hin⟩ := hIb
    have hwi : i < xs.length → IntKind.i64.wrap ((i : Int) + 1) = ((i + 1 : Nat) : Int) := fun h => wrap_nat h hl
    simp (maxSteps := 5000000) -dsimp only [↓gp, gq, reduceCtorEq, Nat.reduceEqDiff, Nat.reduceLT, Nat.reduceLeDiff, Nat.reduceAdd, Nat.reduceMul, Nat.reduceSub, Nat.reduceBEq, Int.reduceToNat, Int.reduceLE, Int.reduceLT, Int.reduceNeg, Nat.reduceMod, sid_ne1, sid_ne2, sid_inj, sid_mod, gT, TK.isInt, TK.agg, Array.toList, h1b, h41b, h42b, h43b]
    refine ⟨fun hlt => ?_, fun hge => isCx_yes ⟨by omega, by omega, fun k hk => ⟨(hall' k hk).1, (hall' k hk).2, fun j hj => hin j k (by omega) hj hk⟩⟩⟩
    rw [hwi hlt]
    refine ⟨hlt, hlt, by omega, by omega, ?_⟩
    refine loop_of (fun (j : Nat) s => s.sl 1 = ints xs ∧ s.sl 41 = ints xs ∧ s.sl 42 = int xs.length ∧ s.sl 43 = int i ∧ s.sl 8 = int (xs.getD i 0) ∧ s.sl 51 = ints (xs.drop (i + 1)) ∧ s.sl 52 = int (xs.length - (i + 1) : Nat) ∧ s.sl 53 = int j ∧ (j ≤ xs.length - (i + 1) ∧ ∀ k, k < j → iand .i64 (xs.getD i 0) (xs.getD (i + 1 + k) 0) ≠ xs.getD i 0)) (fun j => xs.length - (i + 1) - j) (0) (by refine ⟨?_, ?_, ?_, ?_, ?_, ?_, ?_, ?_, by simp⟩ <;> (first | (simp (maxSteps := 5000000) -dsimp only [gr, Nat.reduceEqDiff, Nat.reduceLT, Nat.reduceAdd, Nat.reduceMod, Nat.reduceBEq, sid_mod, sid_ne1, sid_ne2, sid_inj, h1b, h41b, h42b, h43b]; first | done | rfl | (simp; done)) | assumption | rfl)) ?_
    intro j sc ⟨h1c, h41c, h42c, h43c, h8c, h51c, h52c, h53c, hIc⟩
    obtain ⟨hj, hinn⟩ := hIc
    have hd : ∀ j, (xs.drop (i + 1)).getD j 0 = xs.getD (i + 1 + j) 0 := fun j => by simp [List.getD]
    simp (maxSteps := 5000000) -dsimp only [↓gp, gq, reduceCtorEq, Nat.reduceEqDiff, Nat.reduceLT, Nat.reduceLeDiff, Nat.reduceAdd, Nat.reduceMul, Nat.reduceSub, Nat.reduceBEq, Int.reduceToNat, Int.reduceLE, Int.reduceLT, Int.reduceNeg, Nat.reduceMod, sid_ne1, sid_ne2, sid_inj, sid_mod, gT, TK.isInt, TK.agg, Array.toList, h1c, h41c, h42c, h43c, h8c, h51c, h52c, h53c, hd, List.length_drop]
    refine ⟨fun h2 => ⟨h2, h2, fun he => ?_, fun he => again_of (j + 1) ⟨(by (first | (simp (maxSteps := 5000000) -dsimp only [gr, Nat.reduceEqDiff, Nat.reduceLT, Nat.reduceAdd, Nat.reduceMod, Nat.reduceBEq, sid_mod, sid_ne1, sid_ne2, sid_inj, h1c, h41c, h42c, h43c, h8c, h51c, h52c, h53c, wrap_nat h2 (by omega)]; first | done | rfl | (simp; done)) | assumption | rfl)), (by (first | (simp (maxSteps := 5000000) -dsimp only [gr, Nat.reduceEqDiff, Nat.reduceLT, Nat.reduceAdd, Nat.reduceMod, Nat.reduceBEq, sid_mod, sid_ne1, sid_ne2, sid_inj, h1c, h41c, h42c, h43c, h8c, h51c, h52c, h53c, wrap_nat h2 (by omega)]; first | done | rfl | (simp; done)) | assumption | rfl)), (by (first | (simp (maxSteps := 5000000) -dsimp only [gr, Nat.reduceEqDiff, Nat.reduceLT, Nat.reduceAdd, Nat.reduceMod, Nat.reduceBEq, sid_mod, sid_ne1, sid_ne2, sid_inj, h1c, h41c, h42c, h43c, h8c, h51c, h52c, h53c, wrap_nat h2 (by omega)]; first | done | rfl | (simp; done)) | assumption | rfl)), (by (first | (simp (maxSteps := 5000000) -dsimp only [gr, Nat.reduceEqDiff, Nat.reduceLT, Nat.reduceAdd, Nat.reduceMod, Nat.reduceBEq, sid_mod, sid_ne1, sid_ne2, sid_inj, h1c, h41c, h42c, h43c, h8c, h51c, h52c, h53c, wrap_nat h2 (by omega)]; first | done | rfl | (simp; done)) | assumption | rfl)), (by (first | (simp (maxSteps := 5000000) -dsimp only [gr, Nat.reduceEqDiff, Nat.reduceLT, Nat.reduceAdd, Nat.reduceMod, Nat.reduceBEq, sid_mod, sid_ne1, sid_ne2, sid_inj, h1c, h41c, h42c, h43c, h8c, h51c, h52c, h53c, wrap_nat h2 (by omega)]; first | done | rfl | (simp; done)) | assumption | rfl)), (by (first | (simp (maxSteps := 5000000) -dsimp only [gr, Nat.reduceEqDiff, Nat.reduceLT, Nat.reduceAdd, Nat.reduceMod, Nat.reduceBEq, sid_mod, sid_ne1, sid_ne2, sid_inj, h1c, h41c, h42c, h43c, h8c, h51c, h52c, h53c, wrap_nat h2 (by omega)]; first | done | rfl | (simp; done)) | assumption | rfl)), (by (first | (simp (maxSteps := 5000000) -dsimp only [gr, Nat.reduceEqDiff, Nat.reduceLT, Nat.reduceAdd, Nat.reduceMod, Nat.reduceBEq, sid_mod, sid_ne1, sid_ne2, sid_inj, h1c, h41c, h42c, h43c, h8c, h51c, h52c, h53c, wrap_nat h2 (by omega)]; first | done | rfl | (simp; done)) | assumption | rfl)), (by (first | (simp (maxSteps := 5000000) -dsimp only [gr, Nat.reduceEqDiff, Nat.reduceLT, Nat.reduceAdd, Nat.reduceMod, Nat.reduceBEq, sid_mod, sid_ne1, sid_ne2, sid_inj, h1c, h41c, h42c, h43c, h8c, h51c, h52c, h53c, wrap_nat h2 (by omega)]; first | done | rfl | (simp; done)) | assumption | rfl)), ⟨by omega, fun k hk => ?_⟩⟩ (by first | omega | (simp only; omega) | (dsimp only; omega) | (show _ < _; simp; omega))⟩, fun h2 => again_of (i + 1) ⟨(by (first | (simp (maxSteps := 5000000) -dsimp only [gr, Nat.reduceEqDiff, Nat.reduceLT, Nat.reduceAdd, Nat.reduceMod, Nat.reduceBEq, sid_mod, sid_ne1, sid_ne2, sid_inj, h1b, h41b, h42b, h43b, h1c, h41c, h42c, h43c, h8c, h51c, h52c, h53c, hwi hlt]; first | done | rfl | (simp; done)) | assumption | rfl)), (by (first | (simp (maxSteps := 5000000) -dsimp only [gr, Nat.reduceEqDiff, Nat.reduceLT, Nat.reduceAdd, Nat.reduceMod, Nat.reduceBEq, sid_mod, sid_ne1, sid_ne2, sid_inj, h1b, h41b, h42b, h43b, h1c, h41c, h42c, h43c, h8c, h51c, h52c, h53c, hwi hlt]; first | done | rfl | (simp; done)) | assumption | rfl)), (by (first | (simp (maxSteps := 5000000) -dsimp only [gr, Nat.reduceEqDiff, Nat.reduceLT, Nat.reduceAdd, Nat.reduceMod, Nat.reduceBEq, sid_mod, sid_ne1, sid_ne2, sid_inj, h1b, h41b, h42b, h43b, h1c, h41c, h42c, h43c, h8c, h51c, h52c, h53c, hwi hlt]; first | done | rfl | (simp; done)) | assumption | rfl)), (by (first | (simp (maxSteps := 5000000) -dsimp only [gr, Nat.reduceEqDiff, Nat.reduceLT, Nat.reduceAdd, Nat.reduceMod, Nat.reduceBEq, sid_mod, sid_ne1, sid_ne2, sid_inj, h1b, h41b, h42b, h43b, h1c, h41c, h42c, h43c, h8c, h51c, h52c, h53c, hwi hlt]; first | done | rfl | (simp; done)) | assumption | rfl)), ⟨by omega, fun j k hj' hk hk' => ?_⟩⟩ (by first | omega | (simp only; omega) | (dsimp only; omega) | (show _ < _; simp; omega))⟩
    · refine isCx_no fun hg => (hg.2.2 (i + 1 + j) (by omega)).2.2 i (by omega) ((hsub i (i + 1 + j) hlt (by omega)).1 (by simpa using he))
    · rcases Nat.lt_succ_iff_lt_or_eq.1 hk with hk | rfl
      · exact hinn k hk
      · intro e
        have := (hsub i (i + 1 + k) hlt (by omega)).2 e
        rw [this] at he
        simp at he
    · rcases Nat.lt_succ_iff_lt_or_eq.1 hj' with hj' | rfl
      · exact hin j k hj' hk hk'
      · have := hinn (k - (j + 1)) (by omega)
        rwa [show j + 1 + (k - (j + 1)) = k by omega] at this
end Go.Proofs.Ytnfpeinbdfmlnaa

namespace Go.Proofs.Ytnfpeinbdfmlnaa
open Go.Abs
set_option linter.unusedSimpArgs false
set_option linter.unusedVariables false

theorem befS_irrefl (a : Int) : befS a a = false := by unfold befS; simp
theorem befS_trans {a b c : Int} (h1 : befS a b = true) (h2 : befS b c = true) : befS a c = true := by
  unfold befS at *
  simp only [Bool.and_eq_true, decide_eq_true_eq] at *
  obtain ⟨ha, hb, h1⟩ := h1
  obtain ⟨_, hc, h2⟩ := h2
  refine ⟨ha, hc, ?_⟩
  split at h1 <;> split at h2 <;> simp only [decide_eq_true_eq] at h1 h2
  · rw [if_pos (by omega)]; exact decide_eq_true (by omega)
  · rw [if_neg (by omega)]; exact decide_eq_true (by omega)
  · rw [if_neg (by omega)]; exact decide_eq_true (by omega)
  · rw [if_neg (by omega)]; exact decide_eq_true (by omega)
theorem cx_sorted {n : Int} {xs : List Int} (h : cxP n xs) : ∀ (j i : Nat), i < j → j < xs.length → befS (xs.getD i 0) (xs.getD j 0) = true := by
  intro j
  induction j with
  | zero => intro i hi; omega
  | succ j ih =>
    intro i hi hj
    have h1 := (h.2.2 (j + 1) hj).2.1 (by omega)
    rw [Nat.add_sub_cancel] at h1
    rcases Nat.lt_succ_iff_lt_or_eq.1 hi with hi | rfl
    · exact befS_trans (ih i hi (by omega)) h1
    · exact h1
theorem cx_nodup {n : Int} {xs : List Int} (h : cxP n xs) : xs.Nodup := by
  refine List.pairwise_iff_getElem.2 fun i j hi hj hij e => ?_
  have := cx_sorted h j i hij hj
  rw [getD_at 0 hi, getD_at 0 hj, e, befS_irrefl] at this
  cases this
end Go.Proofs.Ytnfpeinbdfmlnaa

namespace Go.Proofs.Ytnfpeinbdfmlnaa
open Go.Abs
set_option linter.unusedSimpArgs false
set_option linter.unusedVariables false

/-- The points that are not in a set. -/
def compl (n s : Int) : Int := if inSet n s = true then 2 ^ n.toNat - 1 - s else -1
theorem inSet_nat {n s : Int} (h : inSet n s = true) : ∃ m t : Nat, n = m ∧ s = t ∧ m ≤ 6 ∧ t < 2 ^ m := by
  unfold inSet at h
  have h := of_decide_eq_true h
  obtain ⟨m, rfl⟩ := Int.eq_ofNat_of_zero_le h.1
  obtain ⟨t, rfl⟩ := Int.eq_ofNat_of_zero_le h.2.2.1
  refine ⟨m, t, rfl, rfl, by omega, ?_⟩
  have := h.2.2.2
  rw [pow_nat] at this
  omega
theorem c_spec_ComplementOf (n s : Int) : AC Try.prog 119 [int n, int s] (.im (int (compl n s))) := by
  refine AC.go (rs := [.tmp 4]) T_ok mixed Try.func119 rfl rfl rfl (by kernel_rfl) fun hl => ?_
  simp (maxSteps := 5000000) -dsimp only [↓gp, gq, reduceCtorEq, Nat.reduceEqDiff, Nat.reduceLT, Nat.reduceLeDiff, Nat.reduceAdd, Nat.reduceMul, Nat.reduceSub, Nat.reduceBEq, Int.reduceToNat, Int.reduceLE, Int.reduceLT, Int.reduceNeg, Nat.reduceMod, sid_ne1, sid_ne2, sid_inj, sid_mod, gT, TK.isInt, TK.agg, Array.toList]
  refine askK_of (c_spec_IsSet _ _) ?_
  simp (maxSteps := 5000000) -dsimp only [↓gp, gq, reduceCtorEq, Nat.reduceEqDiff, Nat.reduceLT, Nat.reduceLeDiff, Nat.reduceAdd, Nat.reduceMul, Nat.reduceSub, Nat.reduceBEq, Int.reduceToNat, Int.reduceLE, Int.reduceLT, Int.reduceNeg, Nat.reduceMod, sid_ne1, sid_ne2, sid_inj, sid_mod, gT, TK.isInt, TK.agg, Array.toList]
  unfold compl
  refine ⟨fun h => ?_, fun h => ?_⟩
  · have h : inSet n s = false := by rwa [Bool.not_eq_true'] at h
    simp [h]
  · have h : inSet n s = true := by rwa [Bool.not_eq_false'] at h
    obtain ⟨m, t, rfl, rfl, hm, ht⟩ := inSet_nat h
    have h64 := two_pow_le hm
    rw [if_pos h]
    rw [uwrap_nat (by omega), ishl_small (by omega), pow_nat]
    generalize (2 ^ m : Nat) = q at *
    refine ⟨by omega, ?_⟩
    rw [wrap_id (n := (q : Int) - 1) (by omega) (by omega), wrap_id (by omega) (by omega)]
theorem compl_bits : ∀ m, m < 7 → ∀ t, t < 64 → t < 2 ^ m → ((2 ^ m - 1) ^^^ ((2 ^ m - 1) &&& t)) = 2 ^ m - 1 - t := by decide +kernel
theorem c_impl_ComplementOf (n s : Int) : AC Try.prog 129 [int n, int s] (.im (int (compl n s))) := by
  refine AC.go (rs := [.tmp 4]) T_ok mixed Try.func129 rfl rfl rfl (by kernel_rfl) fun hl => ?_
  simp (maxSteps := 5000000) -dsimp only [↓gp, gq, reduceCtorEq, Nat.reduceEqDiff, Nat.reduceLT, Nat.reduceLeDiff, Nat.reduceAdd, Nat.reduceMul, Nat.reduceSub, Nat.reduceBEq, Int.reduceToNat, Int.reduceLE, Int.reduceLT, Int.reduceNeg, Nat.reduceMod, sid_ne1, sid_ne2, sid_inj, sid_mod, gT, TK.isInt, TK.agg, Array.toList]
  refine askK_of (c_impl_IsSet _ _) ?_
  simp (maxSteps := 5000000) -dsimp only [↓gp, gq, reduceCtorEq, Nat.reduceEqDiff, Nat.reduceLT, Nat.reduceLeDiff, Nat.reduceAdd, Nat.reduceMul, Nat.reduceSub, Nat.reduceBEq, Int.reduceToNat, Int.reduceLE, Int.reduceLT, Int.reduceNeg, Nat.reduceMod, sid_ne1, sid_ne2, sid_inj, sid_mod, gT, TK.isInt, TK.agg, Array.toList]
  unfold compl
  refine ⟨fun h => ?_, fun h => ?_⟩
  · have h : inSet n s = false := by rwa [Bool.not_eq_true'] at h
    simp [h]
  · have h : inSet n s = true := by rwa [Bool.not_eq_false'] at h
    obtain ⟨m, t, rfl, rfl, hm, ht⟩ := inSet_nat h
    have h64 := two_pow_le hm
    rw [if_pos h]
    rw [uwrap_nat (by omega), ishl_small (by omega), pow_nat]
    have hb := compl_bits m (by omega) t (by omega) ht
    have h1 := Nat.one_le_two_pow (n := m)
    generalize (2 ^ m : Nat) = q at *
    refine ⟨by omega, ?_⟩
    rw [wrap_id (n := (q : Int) - 1) (by omega) (by omega), show (q : Int) - 1 = ((q - 1 : Nat) : Int) by omega, iandnot_nat (by omega) (by omega), hb]
    congr 2
    omega
end Go.Proofs.Ytnfpeinbdfmlnaa

namespace Go.Proofs.Ytnfpeinbdfmlnaa
open Go.Abs
set_option linter.unusedSimpArgs false
set_option linter.unusedVariables false

end Go.Proofs.Ytnfpeinbdfmlnaa

namespace Go.Proofs.Ytnfpeinbdfmlnaa
open Go.Abs
set_option linter.unusedSimpArgs false
set_option linter.unusedVariables false

theorem mask_lt64 (w : Nat → Bool) {n : Nat} (hn : n ≤ 6) : maskF w (2 ^ n) < 18446744073709551616 := by
  have h1 := maskF_lt w (2 ^ n)
  have h2 := two_pow_le hn
  have h3 : 2 ^ (2 ^ n) ≤ 2 ^ 64 := Nat.pow_le_pow_right (by omega) h2
  omega
end Go.Proofs.Ytnfpeinbdfmlnaa

namespace Go.Proofs.Ytnfpeinbdfmlnaa
open Go.Abs
set_option linter.unusedSimpArgs false
set_option linter.unusedVariables false

def okS (xs : List Int) : Prop := ∀ x ∈ xs, 0 ≤ x ∧ x < 64
theorem okS_at {xs : List Int} (h : okS xs) {k : Nat} (hk : k < xs.length) : 0 ≤ xs.getD k 0 ∧ xs.getD k 0 < 64 := h _ (getD_mem 0 hk)
theorem cx_ok {n : Int} {xs : List Int} (h : isCx n xs = true) : okS xs := fun x hx => by
  obtain ⟨i, hi, rfl⟩ := mem_getD 0 hx
  exact inSet_lt ((isCx_iff.1 h).2.2 i hi).1
theorem face_test {x : Int} (hx : 0 ≤ x ∧ x < 64) {s : Nat} (hs : s < 64) : (iand .i64 x (s : Int) == (s : Int)) = (x.toNat &&& s == s) := by
  have e : x = ((x.toNat : Nat) : Int) := by omega
  rw [e, iand_nat (by omega) (by omega)]
  have : ((x.toNat : Nat) : Int).toNat = x.toNat := by omega
  rw [this]
  cases h : (x.toNat &&& s == s) with
  | true => rw [beq_iff_eq] at h; rw [h]; simp
  | false =>
    have h := beq_eq_false_iff_ne.1 h
    rw [beq_eq_false_iff_ne]
    exact fun e => h (by omega)
theorem c_spec_l3Has (n : Int) (xs : List Int) (u : Nat) (hx : okS xs) (hs : u < 64) : AC Try.prog 121 [.ag [int n, ints xs], int u] (.im (bool (faceB xs u))) := by
  refine AC.go (rs := [.tmp 4]) T_ok mixed Try.func121 rfl rfl rfl (by kernel_rfl) fun hl => ?_
  simp only [lens_cons, lens_nil, and_true, lens2_ag2, lens1_v, lens1_iL, lens2_v, true_and] at hl
  simp (maxSteps := 5000000) -dsimp only [↓gp, gq, reduceCtorEq, Nat.reduceEqDiff, Nat.reduceLT, Nat.reduceLeDiff, Nat.reduceAdd, Nat.reduceMul, Nat.reduceSub, Nat.reduceBEq, Int.reduceToNat, Int.reduceLE, Int.reduceLT, Int.reduceNeg, Nat.reduceMod, sid_ne1, sid_ne2, sid_inj, sid_mod, gT, TK.isInt, TK.agg, Array.toList]
  refine loop_of (fun (k : Nat) s => s.sl 1 = int u ∧ s.sl 2 = .ref 2 1 0 ∧ s.rw 2 = ⟨1, .box 57 [int n, ints xs]⟩ ∧ s.sl 5 = int k ∧ (k ≤ xs.length ∧ ∀ i, i < k → ((xs.getD i 0).toNat &&& u == u) = false)) (fun k => xs.length - k) (0) (by refine ⟨?_, ?_, ?_, ?_, by simp⟩ <;> (first | (simp (maxSteps := 5000000) -dsimp only [gr, Nat.reduceEqDiff, Nat.reduceLT, Nat.reduceAdd, Nat.reduceMod, Nat.reduceBEq, sid_mod, sid_ne1, sid_ne2, sid_inj]; first | done | rfl | (simp; done)) | assumption | rfl)) ?_
  intro k sa ⟨h1a, h2a, r2a, h5a, hIa⟩
  obtain ⟨hk, hall⟩ := hIa
  simp (maxSteps := 5000000) -dsimp only [↓gp, gq, reduceCtorEq, Nat.reduceEqDiff, Nat.reduceLT, Nat.reduceLeDiff, Nat.reduceAdd, Nat.reduceMul, Nat.reduceSub, Nat.reduceBEq, Int.reduceToNat, Int.reduceLE, Int.reduceLT, Int.reduceNeg, Nat.reduceMod, sid_ne1, sid_ne2, sid_inj, sid_mod, gT, TK.isInt, TK.agg, Array.toList, h1a, h2a, r2a, h5a]
  refine ⟨fun h => ⟨h, h, fun he => ?_, fun he => again_of (k + 1) ⟨(by (first | (simp (maxSteps := 5000000) -dsimp only [gr, Nat.reduceEqDiff, Nat.reduceLT, Nat.reduceAdd, Nat.reduceMod, Nat.reduceBEq, sid_mod, sid_ne1, sid_ne2, sid_inj, h1a, h2a, r2a, h5a, wrap_nat h hl]; first | done | rfl | (simp; done)) | assumption | rfl)), (by (first | (simp (maxSteps := 5000000) -dsimp only [gr, Nat.reduceEqDiff, Nat.reduceLT, Nat.reduceAdd, Nat.reduceMod, Nat.reduceBEq, sid_mod, sid_ne1, sid_ne2, sid_inj, h1a, h2a, r2a, h5a, wrap_nat h hl]; first | done | rfl | (simp; done)) | assumption | rfl)), (by (first | (simp (maxSteps := 5000000) -dsimp only [gr, Nat.reduceEqDiff, Nat.reduceLT, Nat.reduceAdd, Nat.reduceMod, Nat.reduceBEq, sid_mod, sid_ne1, sid_ne2, sid_inj, h1a, h2a, r2a, h5a, wrap_nat h hl]; first | done | rfl | (simp; done)) | assumption | rfl)), (by (first | (simp (maxSteps := 5000000) -dsimp only [gr, Nat.reduceEqDiff, Nat.reduceLT, Nat.reduceAdd, Nat.reduceMod, Nat.reduceBEq, sid_mod, sid_ne1, sid_ne2, sid_inj, h1a, h2a, r2a, h5a, wrap_nat h hl]; first | done | rfl | (simp; done)) | assumption | rfl)), ⟨by omega, fun i hi => ?_⟩⟩ (by first | omega | (simp only; omega) | (dsimp only; omega) | (show _ < _; simp; omega))⟩, fun h => ?_⟩
  · rw [face_test (okS_at hx h) hs] at he
    exact faceB_iff.2 ⟨_, getD_mem 0 h, by simpa using he⟩
  · rw [face_test (okS_at hx h) hs] at he
    rcases Nat.lt_succ_iff_lt_or_eq.1 hi with hi | rfl
    · exact hall i hi
    · exact he
  · cases hf : faceB xs u with
    | false => rfl
    | true =>
      obtain ⟨x, hx', hx2⟩ := faceB_iff.1 hf
      obtain ⟨i, hi, rfl⟩ := mem_getD 0 hx'
      have := hall i (by omega)
      rw [hx2] at this
      simp at this
/-- A face of a complex. -/
noncomputable def facF (n : Int) (xs : List Int) (s : Nat) : Bool := isCx n xs && faceB xs s
theorem inF_ofN (l : List Nat) (s : Nat) : inF (ofN l) s = decide (s ∈ l) := by
  unfold inF ofN
  refine decide_eq_decide.2 ?_
  simp only [List.mem_map]
  exact ⟨fun ⟨a, h1, h2⟩ => by have : a = s := by omega
                               exact this ▸ h1, fun h => ⟨s, h, rfl⟩⟩
theorem ofN_ok {l : List Nat} (h : ∀ s ∈ l, s < 64) : ∀ x ∈ ofN l, 0 ≤ x ∧ x < 64 := fun x hx => by
  obtain ⟨s, hs, rfl⟩ := List.mem_map.1 hx
  have := h s hs
  omega
theorem c_spec_FacesOf (n : Int) (xs : List Int) : AC Try.prog 80 [.ag [int n, ints xs]] (.fr 3 1 (iL (ofN (ordN (facF n xs))))) := by
  refine AC.go (rs := [.tmp 2]) T_ok mixed Try.func80 rfl rfl rfl (by kernel_rfl) fun hl => ?_
  simp (maxSteps := 5000000) -dsimp only [↓gp, gq, reduceCtorEq, Nat.reduceEqDiff, Nat.reduceLT, Nat.reduceLeDiff, Nat.reduceAdd, Nat.reduceMul, Nat.reduceSub, Nat.reduceBEq, Int.reduceToNat, Int.reduceLE, Int.reduceLT, Int.reduceNeg, Nat.reduceMod, sid_ne1, sid_ne2, sid_inj, sid_mod, gT, TK.isInt, TK.agg, Array.toList]
  have fin : ∀ m, m = 64 → ordN (inF (ofN ((List.range m).filter (facF n xs)))) = ordN (facF n xs) := fun m hm => by
    refine ordN_congr fun s hs => ?_
    rw [inF_ofN, hm]
    cases h : facF n xs s <;> simp [h, hs]
  have hmem : ∀ m, m ≤ 64 → ∀ s ∈ (List.range m).filter (facF n xs), s < 64 := fun m hm s hs => by
    have := List.mem_range.1 (List.mem_filter.1 hs).1; omega
  refine loop_of (fun (za : Nat × Nat) s => match za with | (m, v) => s.sl 1 = .ref 1 1 0 ∧ s.rw 1 = ⟨1, .box 57 [int n, ints xs]⟩ ∧ s.sl 3 = .own 5 v ∧ s.rw 5 = ⟨v, .sli 3 1 false (iL (ofN ((List.range m).filter (facF n xs))))⟩ ∧ s.sl 4 = int m ∧ (m ≤ 64)) (fun (m, v) => 64 - m) ((0, 1)) (by refine ⟨?_, ?_, ?_, ?_, ?_, by simp⟩ <;> (first | (simp (maxSteps := 5000000) -dsimp only [gr, Nat.reduceEqDiff, Nat.reduceLT, Nat.reduceAdd, Nat.reduceMod, Nat.reduceBEq, sid_mod, sid_ne1, sid_ne2, sid_inj]; first | done | rfl | (simp; done)) | assumption | rfl)) ?_
  intro (m, v) sa ⟨h1a, r1a, h3a, r5a, h4a, hIa⟩
  have hflen : ((List.range m).filter (facF n xs)).length ≤ 64 := by
    have := List.length_filter_le (facF n xs) (List.range m); rw [List.length_range] at this; omega
  simp (maxSteps := 5000000) -dsimp only [↓gp, gq, reduceCtorEq, Nat.reduceEqDiff, Nat.reduceLT, Nat.reduceLeDiff, Nat.reduceAdd, Nat.reduceMul, Nat.reduceSub, Nat.reduceBEq, Int.reduceToNat, Int.reduceLE, Int.reduceLT, Int.reduceNeg, Nat.reduceMod, sid_ne1, sid_ne2, sid_inj, sid_mod, gT, TK.isInt, TK.agg, Array.toList, h1a, r1a, h3a, r5a, h4a]
  refine ⟨fun h => askK_of (c_spec_IsComplex n xs) ?_, fun h => ?_⟩
  · simp (maxSteps := 5000000) -dsimp only [↓gp, gq, reduceCtorEq, Nat.reduceEqDiff, Nat.reduceLT, Nat.reduceLeDiff, Nat.reduceAdd, Nat.reduceMul, Nat.reduceSub, Nat.reduceBEq, Int.reduceToNat, Int.reduceLE, Int.reduceLT, Int.reduceNeg, Nat.reduceMod, sid_ne1, sid_ne2, sid_inj, sid_mod, gT, TK.isInt, TK.agg, Array.toList, h1a, r1a, h3a, r5a, h4a]
    have hm : m < 64 := by omega
    refine ⟨fun hc => askK_of (c_spec_l3Has n xs m (cx_ok hc) hm) ?_, fun hc => askK_of (c_spec_l2Order _ (ofN_ok (hmem m hIa))) ?_⟩
    · simp (maxSteps := 5000000) -dsimp only [↓gp, gq, reduceCtorEq, Nat.reduceEqDiff, Nat.reduceLT, Nat.reduceLeDiff, Nat.reduceAdd, Nat.reduceMul, Nat.reduceSub, Nat.reduceBEq, Int.reduceToNat, Int.reduceLE, Int.reduceLT, Int.reduceNeg, Nat.reduceMod, sid_ne1, sid_ne2, sid_inj, sid_mod, gT, TK.isInt, TK.agg, Array.toList, h1a, r1a, h3a, r5a, h4a, ofN_length]
      refine ⟨fun hf => ?_, fun hf => ?_⟩
      · have e : (List.range (m + 1)).filter (facF n xs) = (List.range m).filter (facF n xs) ++ [m] := by
          rw [List.range_succ, List.filter_append]
          simp [facF, hc, hf]
        refine ⟨by omega, ?_⟩
        exact again_of ((m + 1, v + 1)) (by refine ⟨?_, ?_, ?_, ?_, ?_, by dsimp only; omega⟩ <;> (first | (simp (maxSteps := 5000000) -dsimp only [gr, Nat.reduceEqDiff, Nat.reduceLT, Nat.reduceAdd, Nat.reduceMod, Nat.reduceBEq, sid_mod, sid_ne1, sid_ne2, sid_inj, h1a, r1a, h3a, r5a, h4a, wrap_nat hm (by omega), e, ofN_append, ofN_one]; first | done | rfl | (simp; done)) | assumption | rfl)) (by first | omega | (simp only; omega) | (dsimp only; omega) | (show _ < _; simp; omega))
      · have e : (List.range (m + 1)).filter (facF n xs) = (List.range m).filter (facF n xs) := by
          rw [List.range_succ, List.filter_append]
          simp [facF, hc, hf]
        exact again_of ((m + 1, v)) (by refine ⟨?_, ?_, ?_, ?_, ?_, by dsimp only; omega⟩ <;> (first | (simp (maxSteps := 5000000) -dsimp only [gr, Nat.reduceEqDiff, Nat.reduceLT, Nat.reduceAdd, Nat.reduceMod, Nat.reduceBEq, sid_mod, sid_ne1, sid_ne2, sid_inj, h1a, r1a, h3a, r5a, h4a, wrap_nat hm (by omega), e]; first | done | rfl | (simp; done)) | assumption | rfl)) (by first | omega | (simp only; omega) | (dsimp only; omega) | (show _ < _; simp; omega))
    · simp (maxSteps := 5000000) -dsimp only [↓gp, gq, reduceCtorEq, Nat.reduceEqDiff, Nat.reduceLT, Nat.reduceLeDiff, Nat.reduceAdd, Nat.reduceMul, Nat.reduceSub, Nat.reduceBEq, Int.reduceToNat, Int.reduceLE, Int.reduceLT, Int.reduceNeg, Nat.reduceMod, sid_ne1, sid_ne2, sid_inj, sid_mod, gT, TK.isInt, TK.agg, Array.toList, h1a, r1a, h3a, r5a, h4a]
      have e1 : (List.range m).filter (facF n xs) = [] := by
        rw [List.filter_eq_nil_iff]; intro s _; simp [facF, hc]
      have e2 : ordN (facF n xs) = ordN (inF (ofN [])) := ordN_congr fun s _ => by rw [inF_ofN]; simp [facF, hc]
      rw [e1, e2]
  · have : m = 64 := by omega
    refine askK_of (c_spec_l2Order _ (ofN_ok (hmem m hIa))) ?_
    simp (maxSteps := 5000000) -dsimp only [↓gp, gq, reduceCtorEq, Nat.reduceEqDiff, Nat.reduceLT, Nat.reduceLeDiff, Nat.reduceAdd, Nat.reduceMul, Nat.reduceSub, Nat.reduceBEq, Int.reduceToNat, Int.reduceLE, Int.reduceLT, Int.reduceNeg, Nat.reduceMod, sid_ne1, sid_ne2, sid_inj, sid_mod, gT, TK.isInt, TK.agg, Array.toList, h1a, r1a, h3a, r5a, h4a]
    rw [fin m this]
theorem ordN_mem64 {f : Nat → Bool} {k : Nat} (h : k < (ordN f).length) : (ordN f).getD k 0 < 64 := (mem_ordN.1 (getD_mem 0 h)).1
theorem c_spec_FacesOfSize (n : Int) (xs : List Int) (k : Int) : AC Try.prog 174 [.ag [int n, ints xs], int k] (.fr 3 1 (iL (ofN ((ordN (facF n xs)).filter fun s => (popN s : Int) == k)))) := by
  refine AC.go (rs := [.tmp 4]) T_ok mixed Try.func174 rfl rfl rfl (by kernel_rfl) fun hl => ?_
  simp (maxSteps := 5000000) -dsimp only [↓gp, gq, reduceCtorEq, Nat.reduceEqDiff, Nat.reduceLT, Nat.reduceLeDiff, Nat.reduceAdd, Nat.reduceMul, Nat.reduceSub, Nat.reduceBEq, Int.reduceToNat, Int.reduceLE, Int.reduceLT, Int.reduceNeg, Nat.reduceMod, sid_ne1, sid_ne2, sid_inj, sid_mod, gT, TK.isInt, TK.agg, Array.toList]
  refine askK_of (c_spec_FacesOf n xs) ?_
  simp (maxSteps := 5000000) -dsimp only [↓gp, gq, reduceCtorEq, Nat.reduceEqDiff, Nat.reduceLT, Nat.reduceLeDiff, Nat.reduceAdd, Nat.reduceMul, Nat.reduceSub, Nat.reduceBEq, Int.reduceToNat, Int.reduceLE, Int.reduceLT, Int.reduceNeg, Nat.reduceMod, sid_ne1, sid_ne2, sid_inj, sid_mod, gT, TK.isInt, TK.agg, Array.toList]
  have hfull := ordN_len (facF n xs)
  have hmem : ∀ i, i < (ordN (facF n xs)).length → (ordN (facF n xs)).getD i 0 < 64 := fun i h => ordN_mem64 h
  generalize ordN (facF n xs) = all at *
  refine loop_of (fun (za : Nat × Nat × Nat) s => match za with | (i, v, u) => s.sl 1 = int k ∧ s.sl 5 = .own 8 v ∧ s.rw 8 = ⟨v, .sli 3 1 false (iL (ofN ((all.take i).filter fun s => (popN s : Int) == k)))⟩ ∧ s.sl 6 = .own 10 u ∧ s.rw 10 = ⟨u, .sli 3 1 false (iL (ofN all))⟩ ∧ s.sl 7 = int i ∧ (i ≤ all.length)) (fun (i, v, u) => all.length - i) ((0, 1, 1)) (by refine ⟨?_, ?_, ?_, ?_, ?_, ?_, by simp⟩ <;> (first | (simp (maxSteps := 5000000) -dsimp only [gr, Nat.reduceEqDiff, Nat.reduceLT, Nat.reduceAdd, Nat.reduceMod, Nat.reduceBEq, sid_mod, sid_ne1, sid_ne2, sid_inj]; first | done | rfl | (simp; done)) | assumption | rfl)) ?_
  intro (i, v, u) sa ⟨h1a, h5a, r8a, h6a, r10a, h7a, hIa⟩
  have hfl : ((all.take i).filter fun s => (popN s : Int) == k).length ≤ i := by
    have := List.length_filter_le (fun s => (popN s : Int) == k) (all.take i); rw [List.length_take] at this; omega
  simp (maxSteps := 5000000) -dsimp only [↓gp, gq, reduceCtorEq, Nat.reduceEqDiff, Nat.reduceLT, Nat.reduceLeDiff, Nat.reduceAdd, Nat.reduceMul, Nat.reduceSub, Nat.reduceBEq, Int.reduceToNat, Int.reduceLE, Int.reduceLT, Int.reduceNeg, Nat.reduceMod, sid_ne1, sid_ne2, sid_inj, sid_mod, gT, TK.isInt, TK.agg, Array.toList, h1a, h5a, r8a, h6a, r10a, h7a, ofN_length]
  refine ⟨fun h => ?_, fun h => ?_⟩
  · have hi := hmem i h
    have hge : (ofN all).getD i 0 = ((all.getD i 0 : Nat) : Int) := ofN_getD h
    rw [hge]
    refine ⟨h, h, askK_of (c_spec_l2Size _ (by omega)) ?_⟩
    simp (maxSteps := 5000000) -dsimp only [↓gp, gq, reduceCtorEq, Nat.reduceEqDiff, Nat.reduceLT, Nat.reduceLeDiff, Nat.reduceAdd, Nat.reduceMul, Nat.reduceSub, Nat.reduceBEq, Int.reduceToNat, Int.reduceLE, Int.reduceLT, Int.reduceNeg, Nat.reduceMod, sid_ne1, sid_ne2, sid_inj, sid_mod, gT, TK.isInt, TK.agg, Array.toList, h1a, h5a, r8a, h6a, r10a, h7a, ofN_length, hge]
    refine ⟨fun hp => ⟨h, h, by omega, ?_⟩, fun hp => ?_⟩
    · have e : (all.take (i + 1)).filter (fun s => (popN s : Int) == k) = (all.take i).filter (fun s => (popN s : Int) == k) ++ [all.getD i 0] := filt_yes h hp
      exact again_of ((i + 1, v + 1, u)) (by refine ⟨?_, ?_, ?_, ?_, ?_, ?_, by dsimp only; omega⟩ <;> (first | (simp (maxSteps := 5000000) -dsimp only [gr, Nat.reduceEqDiff, Nat.reduceLT, Nat.reduceAdd, Nat.reduceMod, Nat.reduceBEq, sid_mod, sid_ne1, sid_ne2, sid_inj, h1a, h5a, r8a, h6a, r10a, h7a, wrap_nat h (by omega), e, ofN_append, ofN_one, hge]; first | done | rfl | (simp; done)) | assumption | rfl)) (by first | omega | (simp only; omega) | (dsimp only; omega) | (show _ < _; simp; omega))
    · have e : (all.take (i + 1)).filter (fun s => (popN s : Int) == k) = (all.take i).filter (fun s => (popN s : Int) == k) := filt_no h hp
      exact again_of ((i + 1, v, u)) (by refine ⟨?_, ?_, ?_, ?_, ?_, ?_, by dsimp only; omega⟩ <;> (first | (simp (maxSteps := 5000000) -dsimp only [gr, Nat.reduceEqDiff, Nat.reduceLT, Nat.reduceAdd, Nat.reduceMod, Nat.reduceBEq, sid_mod, sid_ne1, sid_ne2, sid_inj, h1a, h5a, r8a, h6a, r10a, h7a, wrap_nat h (by omega), e]; first | done | rfl | (simp; done)) | assumption | rfl)) (by first | omega | (simp only; omega) | (dsimp only; omega) | (show _ < _; simp; omega))
  · have : i = all.length := by omega
    rw [this, List.take_length]
theorem size_filter (f : Nat → Bool) (k : Nat) : (ordN f).filter (fun s => (popN s : Int) == (k : Int)) = ordS f k 64 := by
  rw [← ordN_filter f k]
  refine List.filter_congr fun s _ => ?_
  cases h : (popN s == k) with
  | true => have := beq_iff_eq.1 h; simp [this]
  | false => have := beq_eq_false_iff_ne.1 h; rw [beq_eq_false_iff_ne]; exact fun e => this (by omega)
theorem c_spec_FacesOfSizeN (n : Int) (xs : List Int) (k : Nat) : AC Try.prog 174 [.ag [int n, ints xs], int k] (.fr 3 1 (iL (ofN (ordS (facF n xs) k 64)))) := by
  have := c_spec_FacesOfSize n xs k
  rwa [size_filter] at this
end Go.Proofs.Ytnfpeinbdfmlnaa

namespace Go.Proofs.Ytnfpeinbdfmlnaa
open Go.Abs
set_option linter.unusedSimpArgs false
set_option linter.unusedVariables false

theorem maskF_full (w : Nat → Bool) {G : Nat} (hF : G < 2 ^ 64) (h : ∀ s, s < 64 → G.testBit s = w s) : G = maskF w 64 := by
  refine Nat.eq_of_testBit_eq fun s => ?_
  rw [maskF_bit]
  by_cases hs : s < 64
  · rw [h s hs]; simp [hs]
  · have : G.testBit s = false := Nat.testBit_lt_two_pow (Nat.lt_of_lt_of_le hF (Nat.pow_le_pow_right (by omega) (by omega)))
    simp [this, hs]
theorem mask_bit64 (w : Nat → Bool) {s : Nat} (h : s < 64) : (maskF w 64).testBit s = w s := by rw [maskF_bit]; simp [h]
theorem mask_congr {w w' : Nat → Bool} (h : ∀ s, s < 64 → w s = w' s) : maskF w 64 = maskF w' 64 :=
  maskF_full w' (maskF_lt w 64) fun s hs => by rw [mask_bit64 w hs, h s hs]
theorem mask_or (w w' : Nat → Bool) : maskF w 64 ||| maskF w' 64 = maskF (fun s => w s || w' s) 64 :=
  maskF_full _ (Nat.or_lt_two_pow (maskF_lt w 64) (maskF_lt w' 64)) fun s hs => by rw [Nat.testBit_or, mask_bit64 w hs, mask_bit64 w' hs]
theorem mask_bitor (w : Nat → Bool) {t : Nat} (ht : t < 64) : maskF w 64 ||| 2 ^ t = maskF (fun s => w s || s == t) 64 :=
  maskF_full _ (Nat.or_lt_two_pow (maskF_lt w 64) (Nat.pow_lt_pow_right (by omega) ht)) fun s hs => by
    rw [Nat.testBit_or, mask_bit64 w hs, Nat.testBit_two_pow]
    congr 1
    by_cases e : t = s
    · simp [e]
    · simp [e]; exact fun h => e h.symm
theorem mask_none : maskF (fun _ => false) 64 = 0 := (maskF_full (G := 0) (fun _ => false) (by omega) (fun s _ => by simp)).symm
/-- The subsets of a set. -/
def subB (u : Nat) (t : Nat) : Bool := u &&& t == t
theorem c_impl_subsetFamily (u : Nat) (hu : u < 64) : AC Try.prog 130 [int u] (.im (u64 (maskF (subB u) 64 : Nat))) := by
  refine AC.go (rs := [.tmp 2]) T_ok mixed Try.func130 rfl rfl rfl (by kernel_rfl) fun hl => ?_
  simp (maxSteps := 5000000) -dsimp only [↓gp, gq, reduceCtorEq, Nat.reduceEqDiff, Nat.reduceLT, Nat.reduceLeDiff, Nat.reduceAdd, Nat.reduceMul, Nat.reduceSub, Nat.reduceBEq, Int.reduceToNat, Int.reduceLE, Int.reduceLT, Int.reduceNeg, Nat.reduceMod, sid_ne1, sid_ne2, sid_inj, sid_mod, gT, TK.isInt, TK.agg, Array.toList]
  have hinit : maskF (fun v => subB u v && decide (u < v)) 64 = 0 := by
    rw [← mask_none]
    refine mask_congr fun v hv => ?_
    cases h : (subB u v && decide (u < v)) with
    | false => rfl
    | true =>
      simp [subB] at h
      have : u &&& v ≤ u := Nat.and_le_left
      omega
  refine loop_of (fun (t : Nat) s => s.sl 0 = int u ∧ s.sl 3 = u64 (maskF (fun v => subB u v && decide (t < v)) 64 : Nat) ∧ s.sl 4 = int t ∧ (t ≤ u ∧ u &&& t = t)) (fun t => t) (u) (by refine ⟨?_, ?_, ?_, ⟨Nat.le_refl _, Nat.and_self u⟩⟩ <;> (first | (simp (maxSteps := 5000000) -dsimp only [gr, Nat.reduceEqDiff, Nat.reduceLT, Nat.reduceAdd, Nat.reduceMod, Nat.reduceBEq, sid_mod, sid_ne1, sid_ne2, sid_inj, hinit]; first | done | rfl | (simp; done)) | assumption | rfl)) ?_
  intro t sa ⟨h0a, h3a, h4a, hIa⟩
  obtain ⟨htu, hts⟩ := hIa
  have hlt := maskF_lt (fun v => subB u v && decide (t < v)) 64
  have hcv : IntKind.u64.wrap (t : Int) = (t : Int) := uwrap_id (by omega)
  have h2t : (2 : Nat) ^ t < 18446744073709551616 := by
    have : (2 : Nat) ^ t < 2 ^ 64 := Nat.pow_lt_pow_right (by omega) (by omega)
    omega
  have hor : ior .u64 (maskF (fun v => subB u v && decide (t < v)) 64 : Nat) (ishl .u64 1 (t : Int)) = ((maskF (fun v => subB u v && decide (t ≤ v)) 64 : Nat) : Int) := by
    rw [ishl_u (by omega), ior_u (by omega) h2t, mask_bitor _ (by omega)]
    congr 1
    refine mask_congr fun v hv => ?_
    by_cases e : v = t
    · subst e; simp [subB, hts]
    · have e1 : decide (t < v) = decide (t ≤ v) := decide_eq_decide.2 (by omega)
      simp [e, e1]
  simp (maxSteps := 5000000) -dsimp only [↓gp, gq, reduceCtorEq, Nat.reduceEqDiff, Nat.reduceLT, Nat.reduceLeDiff, Nat.reduceAdd, Nat.reduceMul, Nat.reduceSub, Nat.reduceBEq, Int.reduceToNat, Int.reduceLE, Int.reduceLT, Int.reduceNeg, Nat.reduceMod, sid_ne1, sid_ne2, sid_inj, sid_mod, gT, TK.isInt, TK.agg, Array.toList, h0a, h3a, h4a, hcv, hor]
  refine ⟨fun h0 => ?_, fun h0 => ?_⟩
  · have : t = 0 := by simp at h0; omega
    subst this
    simp
  · have h0 : ¬ t = 0 := by
      intro e; subst e; simp at h0
    have hw : IntKind.i64.wrap ((t : Int) - 1) = ((t - 1 : Nat) : Int) := by rw [wrap_id (by omega) (by omega)]; omega
    have hand := iand_nat (a := t - 1) (b := u) (by omega) (by omega)
    have hle : (t - 1) &&& u ≤ t - 1 := Nat.and_le_left
    have hnext : maskF (fun v => subB u v && decide ((t - 1) &&& u < v)) 64 = maskF (fun v => subB u v && decide (t ≤ v)) 64 := by
      refine mask_congr fun v hv => ?_
      cases hs : subB u v with
      | false => rfl
      | true =>
        simp only [Bool.true_and]
        refine decide_eq_decide.2 ⟨fun h => ?_, fun h => by omega⟩
        rcases Nat.lt_or_ge v t with h2 | h2
        · have := sub_next u hu t (by omega) (by rw [Nat.and_comm]; exact hts) h0 v h2 (by rw [Nat.and_comm]; simpa [subB] using hs)
          omega
        · exact h2
    simp (maxSteps := 5000000) -dsimp only [↓gp, gq, reduceCtorEq, Nat.reduceEqDiff, Nat.reduceLT, Nat.reduceLeDiff, Nat.reduceAdd, Nat.reduceMul, Nat.reduceSub, Nat.reduceBEq, Int.reduceToNat, Int.reduceLE, Int.reduceLT, Int.reduceNeg, Nat.reduceMod, sid_ne1, sid_ne2, sid_inj, sid_mod, gT, TK.isInt, TK.agg, Array.toList, h0a, h3a, h4a, hcv, hor, hw, hand]
    exact again_of ((t - 1) &&& u) (by refine ⟨?_, ?_, ?_, ⟨by omega, by rw [Nat.and_comm, Nat.and_assoc, Nat.and_self]⟩⟩ <;> (first | (simp (maxSteps := 5000000) -dsimp only [gr, Nat.reduceEqDiff, Nat.reduceLT, Nat.reduceAdd, Nat.reduceMod, Nat.reduceBEq, sid_mod, sid_ne1, sid_ne2, sid_inj, h0a, h3a, h4a, hcv, hor, hw, hand, hnext]; first | done | rfl | (simp; done)) | assumption | rfl)) (by first | omega | (simp only; omega) | (dsimp only; omega) | (show _ < _; simp; omega))
theorem faceB_snoc {xs : List Int} {k t : Nat} (h : k < xs.length) : faceB (xs.take (k + 1)) t = (faceB (xs.take k) t || subB (xs.getD k 0).toNat t) := by
  rw [take_snoc 0 h]
  unfold faceB subB
  rw [List.any_append]
  simp
theorem c_impl_facesIn (n : Int) (xs : List Int) (hx : okS xs) : AC Try.prog 87 [.ag [int n, ints xs]] (.im (u64 (maskF (faceB xs) 64 : Nat))) := by
  refine AC.go (rs := [.tmp 2]) T_ok mixed Try.func87 rfl rfl rfl (by kernel_rfl) fun hl => ?_
  simp only [lens_cons, lens_nil, and_true, lens2_ag2, lens1_v, lens1_iL, lens2_v, true_and] at hl
  simp (maxSteps := 5000000) -dsimp only [↓gp, gq, reduceCtorEq, Nat.reduceEqDiff, Nat.reduceLT, Nat.reduceLeDiff, Nat.reduceAdd, Nat.reduceMul, Nat.reduceSub, Nat.reduceBEq, Int.reduceToNat, Int.reduceLE, Int.reduceLT, Int.reduceNeg, Nat.reduceMod, sid_ne1, sid_ne2, sid_inj, sid_mod, gT, TK.isInt, TK.agg, Array.toList]
  have hinit : maskF (faceB (xs.take 0)) 64 = 0 := mask_none
  refine loop_of (fun (k : Nat) s => s.sl 3 = u64 (maskF (faceB (xs.take k)) 64 : Nat) ∧ s.sl 7 = ints xs ∧ s.sl 8 = int xs.length ∧ s.sl 9 = int k ∧ (k ≤ xs.length)) (fun k => xs.length - k) (0) (by refine ⟨?_, ?_, ?_, ?_, by omega⟩ <;> (first | (simp (maxSteps := 5000000) -dsimp only [gr, Nat.reduceEqDiff, Nat.reduceLT, Nat.reduceAdd, Nat.reduceMod, Nat.reduceBEq, sid_mod, sid_ne1, sid_ne2, sid_inj, hinit]; first | done | rfl | (simp; done)) | assumption | rfl)) ?_
  intro k sa ⟨h3a, h7a, h8a, h9a, hIa⟩
  simp (maxSteps := 5000000) -dsimp only [↓gp, gq, reduceCtorEq, Nat.reduceEqDiff, Nat.reduceLT, Nat.reduceLeDiff, Nat.reduceAdd, Nat.reduceMul, Nat.reduceSub, Nat.reduceBEq, Int.reduceToNat, Int.reduceLE, Int.reduceLT, Int.reduceNeg, Nat.reduceMod, sid_ne1, sid_ne2, sid_inj, sid_mod, gT, TK.isInt, TK.agg, Array.toList, h3a, h7a, h8a, h9a]
  refine ⟨fun h => ⟨h, h, ?_⟩, fun h => ?_⟩
  · have h6 := okS_at hx h
    have hn : xs.getD k 0 = ((xs.getD k 0).toNat : Int) := by omega
    have hc := c_impl_subsetFamily (xs.getD k 0).toNat (by omega)
    rw [← hn] at hc
    refine askK_of hc ?_
    have hm1 := maskF_lt (faceB (xs.take k)) 64
    have hm2 := maskF_lt (subB (xs.getD k 0).toNat) 64
    have hor : ior .u64 (maskF (faceB (xs.take k)) 64 : Nat) (maskF (subB (xs.getD k 0).toNat) 64 : Nat) = ((maskF (faceB (xs.take (k + 1))) 64 : Nat) : Int) := by
      rw [ior_u (by omega) (by omega), mask_or]
      congr 1
      exact mask_congr fun t _ => (faceB_snoc h).symm
    simp (maxSteps := 5000000) -dsimp only [↓gp, gq, reduceCtorEq, Nat.reduceEqDiff, Nat.reduceLT, Nat.reduceLeDiff, Nat.reduceAdd, Nat.reduceMul, Nat.reduceSub, Nat.reduceBEq, Int.reduceToNat, Int.reduceLE, Int.reduceLT, Int.reduceNeg, Nat.reduceMod, sid_ne1, sid_ne2, sid_inj, sid_mod, gT, TK.isInt, TK.agg, Array.toList, h3a, h7a, h8a, h9a, hor]
    exact again_of (k + 1) (by refine ⟨?_, ?_, ?_, ?_, by omega⟩ <;> (first | (simp (maxSteps := 5000000) -dsimp only [gr, Nat.reduceEqDiff, Nat.reduceLT, Nat.reduceAdd, Nat.reduceMod, Nat.reduceBEq, sid_mod, sid_ne1, sid_ne2, sid_inj, h3a, h7a, h8a, h9a, wrap_nat h hl, hor]; first | done | rfl | (simp; done)) | assumption | rfl)) (by first | omega | (simp only; omega) | (dsimp only; omega) | (show _ < _; simp; omega))
  · have : k = xs.length := by omega
    rw [this, List.take_length]
end Go.Proofs.Ytnfpeinbdfmlnaa

namespace Go.Proofs.Ytnfpeinbdfmlnaa
open Go.Abs
set_option linter.unusedSimpArgs false
set_option linter.unusedVariables false

theorem c_impl_IsComplex (n : Int) (xs : List Int) : AC Try.prog 83 [.ag [int n, ints xs]] (.im (bool (isCx n xs))) := by
  refine AC.go (rs := [.tmp 2]) T_ok mixed Try.func83 rfl rfl rfl (by kernel_rfl) fun hl => ?_
  simp (maxSteps := 5000000) -dsimp only [↓gp, gq, reduceCtorEq, Nat.reduceEqDiff, Nat.reduceLT, Nat.reduceLeDiff, Nat.reduceAdd, Nat.reduceMul, Nat.reduceSub, Nat.reduceBEq, Int.reduceToNat, Int.reduceLE, Int.reduceLT, Int.reduceNeg, Nat.reduceMod, sid_ne1, sid_ne2, sid_inj, sid_mod, gT, TK.isInt, TK.agg, Array.toList]
  refine askK_of (c_impl_isAntichain n xs) ?_
  simp (maxSteps := 5000000) -dsimp only [↓gp, gq, reduceCtorEq, Nat.reduceEqDiff, Nat.reduceLT, Nat.reduceLeDiff, Nat.reduceAdd, Nat.reduceMul, Nat.reduceSub, Nat.reduceBEq, Int.reduceToNat, Int.reduceLE, Int.reduceLT, Int.reduceNeg, Nat.reduceMod, sid_ne1, sid_ne2, sid_inj, sid_mod, gT, TK.isInt, TK.agg, Array.toList]
/-- The sets of the parts. -/
def facs (ps : List ByteArray) : List Int := ps.map fun p => ((setV p p.size : Nat) : Int)
def chr (n : Nat) : ByteArray := ⟨#[UInt8.ofNat (48 + n)]⟩
/-- A text that tells a complex. -/
structure OkText (t : ByteArray) (n : Nat) (rest : ByteArray) (ps : List ByteArray) : Prop where
  size : 2 ≤ t.size ∧ t.size ≤ 1000
  pts : 1 ≤ n ∧ n ≤ 6
  b0 : byt t 0 = 48 + n
  b1 : byt t 1 = 58
  tail : t.extract 2 t.size = rest
  rsize : rest.size ≤ 1000
  full : (rest.toList == (⟨#[]⟩ : ByteArray).toList) = false
  parts : splitB rest 44 = ps
  plen : ps.length ≤ 1000
  pne : 0 < ps.length
  sets : ∀ p ∈ ps, OkSet p
  head : splitB t 58 = [chr n, rest]
  cx : cxP n (facs ps)
end Go.Proofs.Ytnfpeinbdfmlnaa

namespace Go.Proofs.Ytnfpeinbdfmlnaa
open Go.Abs
set_option linter.unusedSimpArgs false
set_option linter.unusedVariables false

/-- The sets that are no faces. -/
noncomputable def misF (n : Int) (xs : List Int) (s : Nat) : Bool := isCx n xs && (inSet n s && !faceB xs s)
noncomputable def misL (n : Int) (xs : List Int) : List Nat := extN (misF n xs) false
theorem misF_lt {n : Int} {xs : List Int} {s : Nat} (h : misF n xs s = true) : s < 64 := by
  unfold misF at h
  simp only [Bool.and_eq_true] at h
  have := inSet_lt h.2.1
  omega
theorem misF_fil (n : Int) (xs : List Int) : inF (ofN ((List.range 64).filter (misF n xs))) = misF n xs := by
  funext s
  rw [inF_ofN]
  refine Bool.eq_iff_iff.2 ?_
  rw [decide_eq_true_iff, List.mem_filter, List.mem_range]
  exact ⟨fun h => h.2, fun h => ⟨misF_lt h, h⟩⟩
theorem misF_no {n : Int} {xs : List Int} (h : isCx n xs = false) (s : Nat) : misF n xs s = false := by unfold misF; rw [h]; rfl
theorem misL_len (n : Int) (xs : List Int) : (misL n xs).length ≤ 448 := extN_len _ _
theorem c_spec_MissingSets (n : Int) (xs : List Int) : AC Try.prog 118 [.ag [int n, ints xs]] (.fr 3 1 (iL (ofN (misL n xs)))) := by
  refine AC.go (rs := [.tmp 2]) T_ok mixed Try.func118 rfl rfl rfl (by kernel_rfl) fun hl => ?_
  simp (maxSteps := 5000000) -dsimp only [↓gp, gq, reduceCtorEq, Nat.reduceEqDiff, Nat.reduceLT, Nat.reduceLeDiff, Nat.reduceAdd, Nat.reduceMul, Nat.reduceSub, Nat.reduceBEq, Int.reduceToNat, Int.reduceLE, Int.reduceLT, Int.reduceNeg, Nat.reduceMod, sid_ne1, sid_ne2, sid_inj, sid_mod, gT, TK.isInt, TK.agg, Array.toList]
  refine loop_of (fun (za : Nat × Nat) s => match za with | (t, v) => s.sl 1 = .ref 1 1 0 ∧ s.rw 1 = ⟨1, .box 57 [int n, ints xs]⟩ ∧ s.sl 3 = .own 5 v ∧ s.rw 5 = ⟨v, .sli 3 1 false (iL (ofN ((List.range t).filter (misF n xs))))⟩ ∧ s.sl 4 = int t ∧ (t ≤ 64)) (fun (t, v) => 64 - t) ((0, 1)) (by refine ⟨?_, ?_, ?_, ?_, ?_, by simp⟩ <;> (first | (simp (maxSteps := 5000000) -dsimp only [gr, Nat.reduceEqDiff, Nat.reduceLT, Nat.reduceAdd, Nat.reduceMod, Nat.reduceBEq, sid_mod, sid_ne1, sid_ne2, sid_inj]; first | done | rfl | (simp; done)) | assumption | rfl)) ?_
  intro (t, v) sa ⟨h1a, r1a, h3a, r5a, h4a, hIa⟩
  have hfl : ((List.range t).filter (misF n xs)).length ≤ 64 := by
    have := List.length_filter_le (misF n xs) (List.range t)
    rw [List.length_range] at this
    omega
  have hend : (t = 64 ∨ isCx n xs = false) → inF (ofN ((List.range t).filter (misF n xs))) = misF n xs := fun h => by
    rcases h with rfl | h
    · exact misF_fil n xs
    · funext i
      rw [inF_ofN, misF_no h]
      exact decide_eq_false fun hm => by rw [List.mem_filter, misF_no h] at hm; cases hm.2
  have hext : (t = 64 ∨ isCx n xs = false) → AC Try.prog 112 [ints (ofN ((List.range t).filter (misF n xs))), bool false] (.fr 3 1 (iL (ofN (misL n xs)))) := fun h => by
    have := c_spec_l2Extreme false _ (ofN_ok (l := (List.range t).filter (misF n xs)) fun i hi => misF_lt (List.mem_filter.1 hi).2)
    rwa [hend h] at this
  simp (maxSteps := 5000000) -dsimp only [↓gp, gq, reduceCtorEq, Nat.reduceEqDiff, Nat.reduceLT, Nat.reduceLeDiff, Nat.reduceAdd, Nat.reduceMul, Nat.reduceSub, Nat.reduceBEq, Int.reduceToNat, Int.reduceLE, Int.reduceLT, Int.reduceNeg, Nat.reduceMod, sid_ne1, sid_ne2, sid_inj, sid_mod, gT, TK.isInt, TK.agg, Array.toList, h1a, r1a, h3a, r5a, h4a]
  refine ⟨fun h => askK_of (c_spec_IsComplex n xs) ?_, fun h => askK_of (hext (.inl (by omega))) ?_⟩
  · simp (maxSteps := 5000000) -dsimp only [↓gp, gq, reduceCtorEq, Nat.reduceEqDiff, Nat.reduceLT, Nat.reduceLeDiff, Nat.reduceAdd, Nat.reduceMul, Nat.reduceSub, Nat.reduceBEq, Int.reduceToNat, Int.reduceLE, Int.reduceLT, Int.reduceNeg, Nat.reduceMod, sid_ne1, sid_ne2, sid_inj, sid_mod, gT, TK.isInt, TK.agg, Array.toList, h1a, r1a, h3a, r5a, h4a]
    refine ⟨fun hc => askK_of (c_spec_IsSet _ _) ?_, fun hc => askK_of (hext (.inr hc)) ?_⟩
    · have hx := cx_ok hc
      have h : t < 64 := by omega
      have hms : misF n xs t = (inSet n t && !faceB xs t) := by unfold misF; rw [hc]; rfl
      have hyes : misF n xs t = true → ofN ((List.range (t + 1)).filter (misF n xs)) = ofN ((List.range t).filter (misF n xs)) ++ [(t : Int)] := fun h => by
        rw [List.range_succ, List.filter_append, ofN_append]
        simp [h, ofN]
      have hno : misF n xs t = false → ofN ((List.range (t + 1)).filter (misF n xs)) = ofN ((List.range t).filter (misF n xs)) := fun h => by
        rw [List.range_succ, List.filter_append, ofN_append]
        simp [h, ofN]
      simp (maxSteps := 5000000) -dsimp only [↓gp, gq, reduceCtorEq, Nat.reduceEqDiff, Nat.reduceLT, Nat.reduceLeDiff, Nat.reduceAdd, Nat.reduceMul, Nat.reduceSub, Nat.reduceBEq, Int.reduceToNat, Int.reduceLE, Int.reduceLT, Int.reduceNeg, Nat.reduceMod, sid_ne1, sid_ne2, sid_inj, sid_mod, gT, TK.isInt, TK.agg, Array.toList, h1a, r1a, h3a, r5a, h4a]
      refine ⟨fun hs => askK_of (c_spec_l3Has n xs t hx h) ?_, fun hs => ?_⟩
      · simp (maxSteps := 5000000) -dsimp only [↓gp, gq, reduceCtorEq, Nat.reduceEqDiff, Nat.reduceLT, Nat.reduceLeDiff, Nat.reduceAdd, Nat.reduceMul, Nat.reduceSub, Nat.reduceBEq, Int.reduceToNat, Int.reduceLE, Int.reduceLT, Int.reduceNeg, Nat.reduceMod, sid_ne1, sid_ne2, sid_inj, sid_mod, gT, TK.isInt, TK.agg, Array.toList, h1a, r1a, h3a, r5a, h4a]
        refine ⟨fun hf => ?_, fun hf => ?_⟩
        · have e := hyes (by rw [hms, hs, hf]; rfl)
          refine ⟨by rw [ofN_length]; omega, again_of ((t + 1, v + 1)) (by refine ⟨?_, ?_, ?_, ?_, ?_, by dsimp only; omega⟩ <;> (first | (simp (maxSteps := 5000000) -dsimp only [gr, Nat.reduceEqDiff, Nat.reduceLT, Nat.reduceAdd, Nat.reduceMod, Nat.reduceBEq, sid_mod, sid_ne1, sid_ne2, sid_inj, h1a, r1a, h3a, r5a, h4a, wrap_nat h (by omega), e]; first | done | rfl | (simp; done)) | assumption | rfl)) (by first | omega | (simp only; omega) | (dsimp only; omega) | (show _ < _; simp; omega))⟩
        · have e := hno (by rw [hms, hf]; simp)
          exact again_of ((t + 1, v)) (by refine ⟨?_, ?_, ?_, ?_, ?_, by dsimp only; omega⟩ <;> (first | (simp (maxSteps := 5000000) -dsimp only [gr, Nat.reduceEqDiff, Nat.reduceLT, Nat.reduceAdd, Nat.reduceMod, Nat.reduceBEq, sid_mod, sid_ne1, sid_ne2, sid_inj, h1a, r1a, h3a, r5a, h4a, wrap_nat h (by omega), e]; first | done | rfl | (simp; done)) | assumption | rfl)) (by first | omega | (simp only; omega) | (dsimp only; omega) | (show _ < _; simp; omega))
      · have e := hno (by rw [hms, hs]; rfl)
        exact again_of ((t + 1, v)) (by refine ⟨?_, ?_, ?_, ?_, ?_, by dsimp only; omega⟩ <;> (first | (simp (maxSteps := 5000000) -dsimp only [gr, Nat.reduceEqDiff, Nat.reduceLT, Nat.reduceAdd, Nat.reduceMod, Nat.reduceBEq, sid_mod, sid_ne1, sid_ne2, sid_inj, h1a, r1a, h3a, r5a, h4a, wrap_nat h (by omega), e]; first | done | rfl | (simp; done)) | assumption | rfl)) (by first | omega | (simp only; omega) | (dsimp only; omega) | (show _ < _; simp; omega))
    · simp (maxSteps := 5000000) -dsimp only [↓gp, gq, reduceCtorEq, Nat.reduceEqDiff, Nat.reduceLT, Nat.reduceLeDiff, Nat.reduceAdd, Nat.reduceMul, Nat.reduceSub, Nat.reduceBEq, Int.reduceToNat, Int.reduceLE, Int.reduceLT, Int.reduceNeg, Nat.reduceMod, sid_ne1, sid_ne2, sid_inj, sid_mod, gT, TK.isInt, TK.agg, Array.toList, h1a, r1a, h3a, r5a, h4a]
  · simp (maxSteps := 5000000) -dsimp only [↓gp, gq, reduceCtorEq, Nat.reduceEqDiff, Nat.reduceLT, Nat.reduceLeDiff, Nat.reduceAdd, Nat.reduceMul, Nat.reduceSub, Nat.reduceBEq, Int.reduceToNat, Int.reduceLE, Int.reduceLT, Int.reduceNeg, Nat.reduceMod, sid_ne1, sid_ne2, sid_inj, sid_mod, gT, TK.isInt, TK.agg, Array.toList, h1a, r1a, h3a, r5a, h4a]
end Go.Proofs.Ytnfpeinbdfmlnaa

namespace Go.Proofs.Ytnfpeinbdfmlnaa
open Go.Abs
set_option linter.unusedSimpArgs false
set_option linter.unusedVariables false

theorem c_spec_IsFieldPrime (p : Int) : AC Try.prog 78 [int p] (.im (bool (isP p))) := by
  refine AC.go (rs := [.tmp 2]) T_ok mixed Try.func78 rfl rfl rfl (by kernel_rfl) fun hl => ?_
  simp (maxSteps := 5000000) -dsimp only [↓gp, gq, reduceCtorEq, Nat.reduceEqDiff, Nat.reduceLT, Nat.reduceLeDiff, Nat.reduceAdd, Nat.reduceMul, Nat.reduceSub, Nat.reduceBEq, Int.reduceToNat, Int.reduceLE, Int.reduceLT, Int.reduceNeg, Nat.reduceMod, sid_ne1, sid_ne2, sid_inj, sid_mod, gT, TK.isInt, TK.agg, Array.toList]
  unfold isP
  exact ⟨fun h => ⟨fun h2 => by simp [h, h2], fun h2 => by simp [h, h2]⟩, fun h => by simp [h]⟩
theorem c_impl_IsFieldPrime (p : Int) : AC Try.prog 84 [int p] (.im (bool (isP p))) := by
  refine AC.go (rs := [.tmp 2]) T_ok mixed Try.func84 rfl rfl rfl (by kernel_rfl) fun hl => ?_
  simp (maxSteps := 5000000) -dsimp only [↓gp, gq, reduceCtorEq, Nat.reduceEqDiff, Nat.reduceLT, Nat.reduceLeDiff, Nat.reduceAdd, Nat.reduceMul, Nat.reduceSub, Nat.reduceBEq, Int.reduceToNat, Int.reduceLE, Int.reduceLT, Int.reduceNeg, Nat.reduceMod, sid_ne1, sid_ne2, sid_inj, sid_mod, gT, TK.isInt, TK.agg, Array.toList]
  unfold isP
  exact ⟨fun h => ⟨fun h2 => by simp [h, h2], fun h2 => by simp [h, h2]⟩, fun h => by simp [h]⟩
theorem tmod_small {a p : Int} (hp : 0 < p) : -p < a.tmod p ∧ a.tmod p < p := ⟨Int.lt_tmod_of_pos a hp, Int.tmod_lt_of_pos a hp⟩
theorem c_spec_l13Mod (a p : Int) (hp : isP p = true) : AC Try.prog 205 [int a, int p] (.im (int (a % p))) := by
  refine AC.go (rs := [.tmp 4]) T_ok mixed Try.func205 rfl rfl rfl (by kernel_rfl) fun hl => ?_
  have hp := isP_pos hp
  have h1 := tmod_small (a := a) (by omega : 0 < p)
  have hw : IntKind.i64.wrap (a.tmod p + p) = a.tmod p + p := wrap_id (by omega) (by omega)
  have hm := mod_add a p (by omega)
  simp (maxSteps := 5000000) -dsimp only [↓gp, gq, reduceCtorEq, Nat.reduceEqDiff, Nat.reduceLT, Nat.reduceLeDiff, Nat.reduceAdd, Nat.reduceMul, Nat.reduceSub, Nat.reduceBEq, Int.reduceToNat, Int.reduceLE, Int.reduceLT, Int.reduceNeg, Nat.reduceMod, sid_ne1, sid_ne2, sid_inj, sid_mod, gT, TK.isInt, TK.agg, Array.toList, hw, hm]
  omega
theorem c_impl_restMod (a p : Int) (hp : isP p = true) : AC Try.prog 208 [int a, int p] (.im (int (a % p))) := by
  refine AC.go (rs := [.tmp 4]) T_ok mixed Try.func208 rfl rfl rfl (by kernel_rfl) fun hl => ?_
  have hp := isP_pos hp
  have h1 := tmod_small (a := a) (by omega : 0 < p)
  have hw : IntKind.i64.wrap (a.tmod p + p) = a.tmod p + p := wrap_id (by omega) (by omega)
  have hm := mod_add a p (by omega)
  simp (maxSteps := 5000000) -dsimp only [↓gp, gq, reduceCtorEq, Nat.reduceEqDiff, Nat.reduceLT, Nat.reduceLeDiff, Nat.reduceAdd, Nat.reduceMul, Nat.reduceSub, Nat.reduceBEq, Int.reduceToNat, Int.reduceLE, Int.reduceLT, Int.reduceNeg, Nat.reduceMod, sid_ne1, sid_ne2, sid_inj, sid_mod, gT, TK.isInt, TK.agg, Array.toList, hw]
  refine ⟨by omega, fun h => ?_, fun h => ?_⟩
  · rw [← hm, tmod_nn (by omega), Int.emod_eq_of_lt (by omega) (by omega)]
  · rw [← hm, Int.tmod_eq_emod_of_nonneg (by omega), Int.add_emod_right, Int.emod_eq_of_lt (by omega) (by omega)]
theorem inv_step {p r b : Int} (h : b < p) : invFrom p r b (p - b).toNat = if r * b % p = 1 then b else invFrom p r (b + 1) (p - (b + 1)).toNat := by
  have e : (p - b).toNat = (p - (b + 1)).toNat + 1 := by omega
  rw [e, invFrom]
theorem c_spec_InverseMod (a p : Int) (hp : isP p = true) : AC Try.prog 229 [int a, int p] (.im (int (invM p a))) := by
  refine AC.go (rs := [.tmp 4]) T_ok mixed Try.func229 rfl rfl rfl (by kernel_rfl) fun hl => ?_
  have hp2 := isP_pos hp
  simp (maxSteps := 5000000) -dsimp only [↓gp, gq, reduceCtorEq, Nat.reduceEqDiff, Nat.reduceLT, Nat.reduceLeDiff, Nat.reduceAdd, Nat.reduceMul, Nat.reduceSub, Nat.reduceBEq, Int.reduceToNat, Int.reduceLE, Int.reduceLT, Int.reduceNeg, Nat.reduceMod, sid_ne1, sid_ne2, sid_inj, sid_mod, gT, TK.isInt, TK.agg, Array.toList]
  refine askK_of (c_spec_IsFieldPrime p) ?_
  simp (maxSteps := 5000000) -dsimp only [↓gp, gq, reduceCtorEq, Nat.reduceEqDiff, Nat.reduceLT, Nat.reduceLeDiff, Nat.reduceAdd, Nat.reduceMul, Nat.reduceSub, Nat.reduceBEq, Int.reduceToNat, Int.reduceLE, Int.reduceLT, Int.reduceNeg, Nat.reduceMod, sid_ne1, sid_ne2, sid_inj, sid_mod, gT, TK.isInt, TK.agg, Array.toList, hp]
  have hr := Int.emod_nonneg a (by omega : p ≠ 0)
  have hr2 := Int.emod_lt_of_pos a (by omega : 0 < p)
  refine loop_of (fun (b : Int) s => s.sl 0 = int a ∧ s.sl 1 = int p ∧ s.sl 5 = int b ∧ (1 ≤ b ∧ b ≤ p ∧ invM p a = invFrom p (a % p) b (p - b).toNat)) (fun b => (p - b).toNat) (1) (by refine ⟨?_, ?_, ?_, ⟨by omega, by omega, rfl⟩⟩ <;> (first | (simp (maxSteps := 5000000) -dsimp only [gr, Nat.reduceEqDiff, Nat.reduceLT, Nat.reduceAdd, Nat.reduceMod, Nat.reduceBEq, sid_mod, sid_ne1, sid_ne2, sid_inj]; first | done | rfl | (simp; done)) | assumption | rfl)) ?_
  intro b sa ⟨h0a, h1a, h5a, hIa⟩
  obtain ⟨hb, hb2, hv⟩ := hIa
  simp (maxSteps := 5000000) -dsimp only [↓gp, gq, reduceCtorEq, Nat.reduceEqDiff, Nat.reduceLT, Nat.reduceLeDiff, Nat.reduceAdd, Nat.reduceMul, Nat.reduceSub, Nat.reduceBEq, Int.reduceToNat, Int.reduceLE, Int.reduceLT, Int.reduceNeg, Nat.reduceMod, sid_ne1, sid_ne2, sid_inj, sid_mod, gT, TK.isInt, TK.agg, Array.toList, h0a, h1a, h5a]
  refine ⟨fun h => askK_of (c_spec_l13Mod a p hp) ?_, fun h => ?_⟩
  · have hm : 0 ≤ a % p * b ∧ a % p * b ≤ 20 := by
      refine ⟨Int.mul_nonneg hr (by omega), ?_⟩
      have := Int.mul_le_mul (show a % p ≤ 4 by omega) (show b ≤ 5 by omega) (by omega) (by omega)
      omega
    have hw : IntKind.i64.wrap (a % p * b) = a % p * b := wrap_id (by omega) (by omega)
    have hw2 : IntKind.i64.wrap (b + 1) = b + 1 := wrap_id (by omega) (by omega)
    simp (maxSteps := 5000000) -dsimp only [↓gp, gq, reduceCtorEq, Nat.reduceEqDiff, Nat.reduceLT, Nat.reduceLeDiff, Nat.reduceAdd, Nat.reduceMul, Nat.reduceSub, Nat.reduceBEq, Int.reduceToNat, Int.reduceLE, Int.reduceLT, Int.reduceNeg, Nat.reduceMod, sid_ne1, sid_ne2, sid_inj, sid_mod, gT, TK.isInt, TK.agg, Array.toList, h0a, h1a, h5a, hw, hw2, tmod_nn hm.1]
    refine ⟨by omega, fun h1 => ?_, fun h1 => again_of (b + 1) ⟨(by (first | (simp (maxSteps := 5000000) -dsimp only [gr, Nat.reduceEqDiff, Nat.reduceLT, Nat.reduceAdd, Nat.reduceMod, Nat.reduceBEq, sid_mod, sid_ne1, sid_ne2, sid_inj, h0a, h1a, h5a, hw2]; first | done | rfl | (simp; done)) | assumption | rfl)), (by (first | (simp (maxSteps := 5000000) -dsimp only [gr, Nat.reduceEqDiff, Nat.reduceLT, Nat.reduceAdd, Nat.reduceMod, Nat.reduceBEq, sid_mod, sid_ne1, sid_ne2, sid_inj, h0a, h1a, h5a, hw2]; first | done | rfl | (simp; done)) | assumption | rfl)), (by (first | (simp (maxSteps := 5000000) -dsimp only [gr, Nat.reduceEqDiff, Nat.reduceLT, Nat.reduceAdd, Nat.reduceMod, Nat.reduceBEq, sid_mod, sid_ne1, sid_ne2, sid_inj, h0a, h1a, h5a, hw2]; first | done | rfl | (simp; done)) | assumption | rfl)), ⟨by omega, by omega, ?_⟩⟩ (by first | omega | (simp only; omega) | (dsimp only; omega) | (show _ < _; simp; omega))⟩
    · have h1 := beq_iff_eq.1 h1
      rw [hv, inv_step h, if_pos h1]
    · have h1 : ¬ a % p * b % p = 1 := by simpa using h1
      rw [hv, inv_step h, if_neg h1]
  · have : (p - b).toNat = 0 := by omega
    rw [hv, this]; rfl
theorem c_impl_InverseMod (a p : Int) (hp : isP p = true) : AC Try.prog 207 [int a, int p] (.im (int (invM p a))) := by
  refine AC.go (rs := [.tmp 4]) T_ok mixed Try.func207 rfl rfl rfl (by kernel_rfl) fun hl => ?_
  have hp2 := isP_pos hp
  simp (maxSteps := 5000000) -dsimp only [↓gp, gq, reduceCtorEq, Nat.reduceEqDiff, Nat.reduceLT, Nat.reduceLeDiff, Nat.reduceAdd, Nat.reduceMul, Nat.reduceSub, Nat.reduceBEq, Int.reduceToNat, Int.reduceLE, Int.reduceLT, Int.reduceNeg, Nat.reduceMod, sid_ne1, sid_ne2, sid_inj, sid_mod, gT, TK.isInt, TK.agg, Array.toList]
  refine askK_of (c_impl_IsFieldPrime p) ?_
  simp (maxSteps := 5000000) -dsimp only [↓gp, gq, reduceCtorEq, Nat.reduceEqDiff, Nat.reduceLT, Nat.reduceLeDiff, Nat.reduceAdd, Nat.reduceMul, Nat.reduceSub, Nat.reduceBEq, Int.reduceToNat, Int.reduceLE, Int.reduceLT, Int.reduceNeg, Nat.reduceMod, sid_ne1, sid_ne2, sid_inj, sid_mod, gT, TK.isInt, TK.agg, Array.toList, hp]
  have hr := Int.emod_nonneg a (by omega : p ≠ 0)
  have hr2 := Int.emod_lt_of_pos a (by omega : 0 < p)
  refine askK_of (c_impl_restMod a p hp) ?_
  simp (maxSteps := 5000000) -dsimp only [↓gp, gq, reduceCtorEq, Nat.reduceEqDiff, Nat.reduceLT, Nat.reduceLeDiff, Nat.reduceAdd, Nat.reduceMul, Nat.reduceSub, Nat.reduceBEq, Int.reduceToNat, Int.reduceLE, Int.reduceLT, Int.reduceNeg, Nat.reduceMod, sid_ne1, sid_ne2, sid_inj, sid_mod, gT, TK.isInt, TK.agg, Array.toList]
  refine loop_of (fun (b : Int) s => s.sl 1 = int p ∧ s.sl 5 = int (a % p) ∧ s.sl 6 = int b ∧ (1 ≤ b ∧ b ≤ p ∧ invM p a = invFrom p (a % p) b (p - b).toNat)) (fun b => (p - b).toNat) (1) (by refine ⟨?_, ?_, ?_, ⟨by omega, by omega, rfl⟩⟩ <;> (first | (simp (maxSteps := 5000000) -dsimp only [gr, Nat.reduceEqDiff, Nat.reduceLT, Nat.reduceAdd, Nat.reduceMod, Nat.reduceBEq, sid_mod, sid_ne1, sid_ne2, sid_inj]; first | done | rfl | (simp; done)) | assumption | rfl)) ?_
  intro b sa ⟨h1a, h5a, h6a, hIa⟩
  obtain ⟨hb, hb2, hv⟩ := hIa
  have hm : 0 ≤ a % p * b ∧ a % p * b ≤ 20 := by
    refine ⟨Int.mul_nonneg hr (by omega), ?_⟩
    have := Int.mul_le_mul (show a % p ≤ 4 by omega) (show b ≤ 5 by omega) (by omega) (by omega)
    omega
  have hw : IntKind.i64.wrap (a % p * b) = a % p * b := wrap_id (by omega) (by omega)
  have hw2 : IntKind.i64.wrap (b + 1) = b + 1 := wrap_id (by omega) (by omega)
  simp (maxSteps := 5000000) -dsimp only [↓gp, gq, reduceCtorEq, Nat.reduceEqDiff, Nat.reduceLT, Nat.reduceLeDiff, Nat.reduceAdd, Nat.reduceMul, Nat.reduceSub, Nat.reduceBEq, Int.reduceToNat, Int.reduceLE, Int.reduceLT, Int.reduceNeg, Nat.reduceMod, sid_ne1, sid_ne2, sid_inj, sid_mod, gT, TK.isInt, TK.agg, Array.toList, h1a, h5a, h6a, hw, hw2, tmod_nn hm.1]
  refine ⟨fun h => ⟨by omega, fun h1 => ?_, fun h1 => again_of (b + 1) ⟨(by (first | (simp (maxSteps := 5000000) -dsimp only [gr, Nat.reduceEqDiff, Nat.reduceLT, Nat.reduceAdd, Nat.reduceMod, Nat.reduceBEq, sid_mod, sid_ne1, sid_ne2, sid_inj, h1a, h5a, h6a, hw2]; first | done | rfl | (simp; done)) | assumption | rfl)), (by (first | (simp (maxSteps := 5000000) -dsimp only [gr, Nat.reduceEqDiff, Nat.reduceLT, Nat.reduceAdd, Nat.reduceMod, Nat.reduceBEq, sid_mod, sid_ne1, sid_ne2, sid_inj, h1a, h5a, h6a, hw2]; first | done | rfl | (simp; done)) | assumption | rfl)), (by (first | (simp (maxSteps := 5000000) -dsimp only [gr, Nat.reduceEqDiff, Nat.reduceLT, Nat.reduceAdd, Nat.reduceMod, Nat.reduceBEq, sid_mod, sid_ne1, sid_ne2, sid_inj, h1a, h5a, h6a, hw2]; first | done | rfl | (simp; done)) | assumption | rfl)), ⟨by omega, by omega, ?_⟩⟩ (by first | omega | (simp only; omega) | (dsimp only; omega) | (show _ < _; simp; omega))⟩, fun h => ?_⟩
  · have h1 := beq_iff_eq.1 h1
    rw [hv, inv_step h, if_pos h1]
  · have h1 : ¬ a % p * b % p = 1 := by simpa using h1
    rw [hv, inv_step h, if_neg h1]
  · have : (p - b).toNat = 0 := by omega
    rw [hv, this]; rfl
end Go.Proofs.Ytnfpeinbdfmlnaa
