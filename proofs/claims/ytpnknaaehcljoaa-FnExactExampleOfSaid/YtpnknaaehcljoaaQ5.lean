/- DERIVED by an AI agent. -/
import Derived.Test.YtpnknaaehcljoaaQ4
import Derived.Test.YtpnknaaehcljoaaQ3
namespace Go.Proofs.Ytpnknaaehcljoaa
open Go.Abs
set_option linter.unusedSimpArgs false
set_option linter.unusedVariables false

noncomputable def fcR (n : Int) (xs : List Int) : List Int := if isCx n xs = true then fvec (faceB xs) else []
theorem c_impl_FaceCounts (n : Int) (xs : List Int) : AC Try.prog 140 [.ag [int n, ints xs]] (.fr 3 1 (iL (fcR n xs))) := by
  refine AC.go (rs := [.tmp 2]) T_ok mixed Try.func140 rfl rfl rfl (by kernel_rfl) fun hl => ?_
  simp (maxSteps := 5000000) -dsimp only [↓gp, gq, reduceCtorEq, Nat.reduceEqDiff, Nat.reduceLT, Nat.reduceLeDiff, Nat.reduceAdd, Nat.reduceMul, Nat.reduceSub, Nat.reduceBEq, Int.reduceToNat, Int.reduceLE, Int.reduceLT, Int.reduceNeg, Nat.reduceMod, sid_ne1, sid_ne2, sid_inj, sid_mod, gT, TK.isInt, TK.agg, Array.toList]
  refine askK_of (c_impl_IsComplex n xs) ?_
  simp (maxSteps := 5000000) -dsimp only [↓gp, gq, reduceCtorEq, Nat.reduceEqDiff, Nat.reduceLT, Nat.reduceLeDiff, Nat.reduceAdd, Nat.reduceMul, Nat.reduceSub, Nat.reduceBEq, Int.reduceToNat, Int.reduceLE, Int.reduceLT, Int.reduceNeg, Nat.reduceMod, sid_ne1, sid_ne2, sid_inj, sid_mod, gT, TK.isInt, TK.agg, Array.toList]
  refine ⟨fun hh => ?_, fun hh => ?_⟩
  · have hh : isCx n xs = false := by simpa using hh
    have : fcR n xs = [] := by unfold fcR; rw [if_neg (by rw [hh]; decide)]
    rw [this]; rfl
  · have hh : isCx n xs = true := by simpa using hh
    have : fcR n xs = fvec (faceB xs) := if_pos hh
    rw [this]
    refine askK_of (c_impl_facesIn n xs (cx_ok hh)) ?_
    simp (maxSteps := 5000000) -dsimp only [↓gp, gq, reduceCtorEq, Nat.reduceEqDiff, Nat.reduceLT, Nat.reduceLeDiff, Nat.reduceAdd, Nat.reduceMul, Nat.reduceSub, Nat.reduceBEq, Int.reduceToNat, Int.reduceLE, Int.reduceLT, Int.reduceNeg, Nat.reduceMod, sid_ne1, sid_ne2, sid_inj, sid_mod, gT, TK.isInt, TK.agg, Array.toList]
    refine askK_of (c_impl_countBySize _) ?_
    simp (maxSteps := 5000000) -dsimp only [↓gp, gq, reduceCtorEq, Nat.reduceEqDiff, Nat.reduceLT, Nat.reduceLeDiff, Nat.reduceAdd, Nat.reduceMul, Nat.reduceSub, Nat.reduceBEq, Int.reduceToNat, Int.reduceLE, Int.reduceLT, Int.reduceNeg, Nat.reduceMod, sid_ne1, sid_ne2, sid_inj, sid_mod, gT, TK.isInt, TK.agg, Array.toList]
/-- Complexes that are one under names. -/
noncomputable def alB (n : Int) (xs : List Int) (m : Int) (ys : List Int) : Bool := isCx n xs && isCx m ys && decide (n = m ∧ canR n xs = canR m ys)
theorem c_spec_AreAlike (n m : Int) (xs ys : List Int) : AC Try.prog 71 [.ag [int n, ints xs], .ag [int m, ints ys]] (.im (bool (alB n xs m ys))) := by
  refine AC.go (rs := [.tmp 4]) T_ok mixed Try.func71 rfl rfl rfl (by kernel_rfl) fun hl => ?_
  simp (maxSteps := 5000000) -dsimp only [↓gp, gq, reduceCtorEq, Nat.reduceEqDiff, Nat.reduceLT, Nat.reduceLeDiff, Nat.reduceAdd, Nat.reduceMul, Nat.reduceSub, Nat.reduceBEq, Int.reduceToNat, Int.reduceLE, Int.reduceLT, Int.reduceNeg, Nat.reduceMod, sid_ne1, sid_ne2, sid_inj, sid_mod, gT, TK.isInt, TK.agg, Array.toList]
  refine askK_of (c_spec_CanonicalComplex n xs) ?_
  simp (maxSteps := 5000000) -dsimp only [↓gp, gq, reduceCtorEq, Nat.reduceEqDiff, Nat.reduceLT, Nat.reduceLeDiff, Nat.reduceAdd, Nat.reduceMul, Nat.reduceSub, Nat.reduceBEq, Int.reduceToNat, Int.reduceLE, Int.reduceLT, Int.reduceNeg, Nat.reduceMod, sid_ne1, sid_ne2, sid_inj, sid_mod, gT, TK.isInt, TK.agg, Array.toList]
  refine askK_of (c_spec_CanonicalComplex m ys) ?_
  simp (maxSteps := 5000000) -dsimp only [↓gp, gq, reduceCtorEq, Nat.reduceEqDiff, Nat.reduceLT, Nat.reduceLeDiff, Nat.reduceAdd, Nat.reduceMul, Nat.reduceSub, Nat.reduceBEq, Int.reduceToNat, Int.reduceLE, Int.reduceLT, Int.reduceNeg, Nat.reduceMod, sid_ne1, sid_ne2, sid_inj, sid_mod, gT, TK.isInt, TK.agg, Array.toList]
  unfold alB
  refine ⟨fun h1 => ⟨fun h2 => ?_, fun h2 => by rw [h2]; simp⟩, fun h1 => by rw [h1]; simp⟩
  rw [h1, h2]
  refine askK_of (c_spec_EqualComplex _ _ _ _) ?_
  simp (maxSteps := 5000000) -dsimp only [↓gp, gq, reduceCtorEq, Nat.reduceEqDiff, Nat.reduceLT, Nat.reduceLeDiff, Nat.reduceAdd, Nat.reduceMul, Nat.reduceSub, Nat.reduceBEq, Int.reduceToNat, Int.reduceLE, Int.reduceLT, Int.reduceNeg, Nat.reduceMod, sid_ne1, sid_ne2, sid_inj, sid_mod, gT, TK.isInt, TK.agg, Array.toList]
  rfl
theorem alB_counts {n m : Int} {xs ys : List Int} (h : alB n xs m ys = true) : n = m ∧ fcR n xs = fcR m ys := by
  unfold alB at h
  simp only [Bool.and_eq_true, decide_eq_true_eq] at h
  obtain ⟨⟨h1, h2⟩, h3, h4⟩ := h
  refine ⟨h3, ?_⟩
  unfold fcR
  rw [if_pos h1, if_pos h2, ← canR_counts h1, ← canR_counts h2, h4]
theorem c_impl_AreAlike (n m : Int) (xs ys : List Int) : AC Try.prog 75 [.ag [int n, ints xs], .ag [int m, ints ys]] (.im (bool (alB n xs m ys))) := by
  refine AC.go (rs := [.tmp 4]) T_ok mixed Try.func75 rfl rfl rfl (by kernel_rfl) fun hl => ?_
  simp (maxSteps := 5000000) -dsimp only [↓gp, gq, reduceCtorEq, Nat.reduceEqDiff, Nat.reduceLT, Nat.reduceLeDiff, Nat.reduceAdd, Nat.reduceMul, Nat.reduceSub, Nat.reduceBEq, Int.reduceToNat, Int.reduceLE, Int.reduceLT, Int.reduceNeg, Nat.reduceMod, sid_ne1, sid_ne2, sid_inj, sid_mod, gT, TK.isInt, TK.agg, Array.toList]
  refine askK_of (c_impl_IsComplex n xs) ?_
  simp (maxSteps := 5000000) -dsimp only [↓gp, gq, reduceCtorEq, Nat.reduceEqDiff, Nat.reduceLT, Nat.reduceLeDiff, Nat.reduceAdd, Nat.reduceMul, Nat.reduceSub, Nat.reduceBEq, Int.reduceToNat, Int.reduceLE, Int.reduceLT, Int.reduceNeg, Nat.reduceMod, sid_ne1, sid_ne2, sid_inj, sid_mod, gT, TK.isInt, TK.agg, Array.toList]
  refine ⟨fun hh => ?_, fun hh => ?_⟩
  · have hh : isCx n xs = true := by simpa using hh
    refine askK_of (c_impl_IsComplex m ys) ?_
    simp (maxSteps := 5000000) -dsimp only [↓gp, gq, reduceCtorEq, Nat.reduceEqDiff, Nat.reduceLT, Nat.reduceLeDiff, Nat.reduceAdd, Nat.reduceMul, Nat.reduceSub, Nat.reduceBEq, Int.reduceToNat, Int.reduceLE, Int.reduceLT, Int.reduceNeg, Nat.reduceMod, sid_ne1, sid_ne2, sid_inj, sid_mod, gT, TK.isInt, TK.agg, Array.toList]
    refine ⟨fun hh2 => ?_, fun hh2 => ?_⟩
    · have hh2 : isCx m ys = false := by simpa using hh2
      unfold alB; rw [hh2]; simp
    · have hh2 : isCx m ys = true := by simpa using hh2
      refine ⟨by kernel_rfl, fun hnm => askK_of (c_impl_FaceCounts n xs) ?_, fun hnm => ?_⟩
      · have hnm : n = m := by simpa using hnm
        subst hnm
        simp (maxSteps := 5000000) -dsimp only [↓gp, gq, reduceCtorEq, Nat.reduceEqDiff, Nat.reduceLT, Nat.reduceLeDiff, Nat.reduceAdd, Nat.reduceMul, Nat.reduceSub, Nat.reduceBEq, Int.reduceToNat, Int.reduceLE, Int.reduceLT, Int.reduceNeg, Nat.reduceMod, sid_ne1, sid_ne2, sid_inj, sid_mod, gT, TK.isInt, TK.agg, Array.toList]
        refine askK_of (c_impl_FaceCounts n ys) ?_
        simp (maxSteps := 5000000) -dsimp only [↓gp, gq, reduceCtorEq, Nat.reduceEqDiff, Nat.reduceLT, Nat.reduceLeDiff, Nat.reduceAdd, Nat.reduceMul, Nat.reduceSub, Nat.reduceBEq, Int.reduceToNat, Int.reduceLE, Int.reduceLT, Int.reduceNeg, Nat.reduceMod, sid_ne1, sid_ne2, sid_inj, sid_mod, gT, TK.isInt, TK.agg, Array.toList]
        refine askK_of (c_slices_Equal _ _) ?_
        simp (maxSteps := 5000000) -dsimp only [↓gp, gq, reduceCtorEq, Nat.reduceEqDiff, Nat.reduceLT, Nat.reduceLeDiff, Nat.reduceAdd, Nat.reduceMul, Nat.reduceSub, Nat.reduceBEq, Int.reduceToNat, Int.reduceLE, Int.reduceLT, Int.reduceNeg, Nat.reduceMod, sid_ne1, sid_ne2, sid_inj, sid_mod, gT, TK.isInt, TK.agg, Array.toList]
        refine ⟨by kernel_rfl, fun hc => ?_, fun hc => askK_of (c_impl_CanonicalComplex n xs) ?_⟩
        · cases hb : alB n xs n ys with
          | false => rfl
          | true => rw [decide_eq_true (alB_counts hb).2] at hc; cases hc
        · simp (maxSteps := 5000000) -dsimp only [↓gp, gq, reduceCtorEq, Nat.reduceEqDiff, Nat.reduceLT, Nat.reduceLeDiff, Nat.reduceAdd, Nat.reduceMul, Nat.reduceSub, Nat.reduceBEq, Int.reduceToNat, Int.reduceLE, Int.reduceLT, Int.reduceNeg, Nat.reduceMod, sid_ne1, sid_ne2, sid_inj, sid_mod, gT, TK.isInt, TK.agg, Array.toList]
          refine askK_of (c_impl_CanonicalComplex n ys) ?_
          simp (maxSteps := 5000000) -dsimp only [↓gp, gq, reduceCtorEq, Nat.reduceEqDiff, Nat.reduceLT, Nat.reduceLeDiff, Nat.reduceAdd, Nat.reduceMul, Nat.reduceSub, Nat.reduceBEq, Int.reduceToNat, Int.reduceLE, Int.reduceLT, Int.reduceNeg, Nat.reduceMod, sid_ne1, sid_ne2, sid_inj, sid_mod, gT, TK.isInt, TK.agg, Array.toList]
          refine askK_of (c_impl_EqualComplex _ _ _ _) ?_
          simp (maxSteps := 5000000) -dsimp only [↓gp, gq, reduceCtorEq, Nat.reduceEqDiff, Nat.reduceLT, Nat.reduceLeDiff, Nat.reduceAdd, Nat.reduceMul, Nat.reduceSub, Nat.reduceBEq, Int.reduceToNat, Int.reduceLE, Int.reduceLT, Int.reduceNeg, Nat.reduceMod, sid_ne1, sid_ne2, sid_inj, sid_mod, gT, TK.isInt, TK.agg, Array.toList]
          unfold alB
          rw [hh, hh2]
          rfl
      · have hnm : n ≠ m := by simpa using hnm
        cases hb : alB n xs m ys with
        | false => rfl
        | true => exact absurd (alB_counts hb).1 hnm
  · have hh : isCx n xs = false := by simpa using hh
    unfold alB; rw [hh]; simp
/-- The number of the example that a complex is, under names. -/
noncomputable def exF (n : Int) (xs : List Int) : Nat → Nat → Int
  | _, 0 => 0
  | k, r + 1 => if alB (exPts k) (facs (exPs k)) n xs = true then k else exF n xs (k + 1) r
noncomputable def exR (n : Int) (xs : List Int) : Int := exF n xs 1 8
theorem c_impl_CountExamples : AC Try.prog 73 [] (.im (int 8)) := by
  refine AC.go (rs := [.tmp 0]) T_ok mixed Try.func73 rfl rfl rfl (by kernel_rfl) fun hl => ?_
  simp (maxSteps := 5000000) -dsimp only [↓gp, gq, reduceCtorEq, Nat.reduceEqDiff, Nat.reduceLT, Nat.reduceLeDiff, Nat.reduceAdd, Nat.reduceMul, Nat.reduceSub, Nat.reduceBEq, Int.reduceToNat, Int.reduceLE, Int.reduceLT, Int.reduceNeg, Nat.reduceMod, sid_ne1, sid_ne2, sid_inj, sid_mod, gT, TK.isInt, TK.agg, Array.toList]
theorem c_spec_CountExamples : AC Try.prog 69 [] (.im (int 8)) := by
  refine AC.go (rs := [.tmp 0]) T_ok mixed Try.func69 rfl rfl rfl (by kernel_rfl) fun hl => ?_
  simp (maxSteps := 5000000) -dsimp only [↓gp, gq, reduceCtorEq, Nat.reduceEqDiff, Nat.reduceLT, Nat.reduceLeDiff, Nat.reduceAdd, Nat.reduceMul, Nat.reduceSub, Nat.reduceBEq, Int.reduceToNat, Int.reduceLE, Int.reduceLT, Int.reduceNeg, Nat.reduceMod, sid_ne1, sid_ne2, sid_inj, sid_mod, gT, TK.isInt, TK.agg, Array.toList]
theorem c_impl_ExampleOf (n : Int) (xs : List Int) : AC Try.prog 10 [.ag [int n, ints xs]] (.im (int (exR n xs))) := by
  refine AC.go (rs := [.tmp 2]) T_ok mixed Try.func10 rfl rfl rfl (by kernel_rfl) fun hl => ?_
  simp (maxSteps := 5000000) -dsimp only [↓gp, gq, reduceCtorEq, Nat.reduceEqDiff, Nat.reduceLT, Nat.reduceLeDiff, Nat.reduceAdd, Nat.reduceMul, Nat.reduceSub, Nat.reduceBEq, Int.reduceToNat, Int.reduceLE, Int.reduceLT, Int.reduceNeg, Nat.reduceMod, sid_ne1, sid_ne2, sid_inj, sid_mod, gT, TK.isInt, TK.agg, Array.toList]
  refine loop_of (fun (k : Nat) s => s.sl 1 = .ref 1 1 0 ∧ s.rw 1 = ⟨1, .box 27 [int n, ints xs]⟩ ∧ s.sl 3 = int ((k + 1 : Nat) : Int) ∧ (k ≤ 8 ∧ exR n xs = exF n xs (k + 1) (8 - k))) (fun k => 8 - k) (0) (by refine ⟨?_, ?_, ?_, ⟨by omega, rfl⟩⟩ <;> (first | (simp (maxSteps := 5000000) -dsimp only [gr, Nat.reduceEqDiff, Nat.reduceLT, Nat.reduceAdd, Nat.reduceMod, Nat.reduceBEq, sid_mod, sid_ne1, sid_ne2, sid_inj]; first | done | rfl | (simp; done)) | assumption | rfl)) ?_
  intro k sa ⟨h1a, r1a, h3a, hIa⟩
  obtain ⟨hk, he⟩ := hIa
  rw [he]
  simp (maxSteps := 5000000) -dsimp only [↓gp, gq, reduceCtorEq, Nat.reduceEqDiff, Nat.reduceLT, Nat.reduceLeDiff, Nat.reduceAdd, Nat.reduceMul, Nat.reduceSub, Nat.reduceBEq, Int.reduceToNat, Int.reduceLE, Int.reduceLT, Int.reduceNeg, Nat.reduceMod, sid_ne1, sid_ne2, sid_inj, sid_mod, gT, TK.isInt, TK.agg, Array.toList, h1a, r1a, h3a]
  refine askK_of c_impl_CountExamples ?_
  simp (maxSteps := 5000000) -dsimp only [↓gp, gq, reduceCtorEq, Nat.reduceEqDiff, Nat.reduceLT, Nat.reduceLeDiff, Nat.reduceAdd, Nat.reduceMul, Nat.reduceSub, Nat.reduceBEq, Int.reduceToNat, Int.reduceLE, Int.reduceLT, Int.reduceNeg, Nat.reduceMod, sid_ne1, sid_ne2, sid_inj, sid_mod, gT, TK.isInt, TK.agg, Array.toList, h1a, r1a, h3a]
  refine ⟨fun h => askK_of (c_impl_ExampleComplex _) ?_, fun h => ?_⟩
  · have hk8 : k < 8 := by omega
    have e8 : 8 - k = (8 - (k + 1)) + 1 := by omega
    have hs : exF n xs (k + 1) (8 - k) = if alB (exPts ((k + 1 : Nat) : Int)) (facs (exPs ((k + 1 : Nat) : Int))) n xs = true then ((k + 1 : Nat) : Int) else exF n xs (k + 1 + 1) (8 - (k + 1)) := by rw [e8, exF]
    rw [hs]
    simp (maxSteps := 5000000) -dsimp only [↓gp, gq, reduceCtorEq, Nat.reduceEqDiff, Nat.reduceLT, Nat.reduceLeDiff, Nat.reduceAdd, Nat.reduceMul, Nat.reduceSub, Nat.reduceBEq, Int.reduceToNat, Int.reduceLE, Int.reduceLT, Int.reduceNeg, Nat.reduceMod, sid_ne1, sid_ne2, sid_inj, sid_mod, gT, TK.isInt, TK.agg, Array.toList, h1a, r1a, h3a]
    refine askK_of (c_impl_AreAlike _ n _ xs) ?_
    simp (maxSteps := 5000000) -dsimp only [↓gp, gq, reduceCtorEq, Nat.reduceEqDiff, Nat.reduceLT, Nat.reduceLeDiff, Nat.reduceAdd, Nat.reduceMul, Nat.reduceSub, Nat.reduceBEq, Int.reduceToNat, Int.reduceLE, Int.reduceLT, Int.reduceNeg, Nat.reduceMod, sid_ne1, sid_ne2, sid_inj, sid_mod, gT, TK.isInt, TK.agg, Array.toList, h1a, r1a, h3a]
    refine ⟨fun ha => by rw [if_pos ha], fun ha => ?_⟩
    rw [if_neg (by rw [ha]; decide)] at hs ⊢
    exact again_of (k + 1) (by refine ⟨?_, ?_, ?_, ⟨by omega, by first | rfl | rw [he, hs]⟩⟩ <;> (first | (simp (maxSteps := 5000000) -dsimp only [gr, Nat.reduceEqDiff, Nat.reduceLT, Nat.reduceAdd, Nat.reduceMod, Nat.reduceBEq, sid_mod, sid_ne1, sid_ne2, sid_inj, h1a, r1a, h3a, wrap_nat (show k + 1 < 9 by omega) (by omega)]; first | done | rfl | (simp; done)) | assumption | rfl)) (by first | omega | (simp only; omega) | (dsimp only; omega) | (show _ < _; simp; omega))
  · have : k = 8 := by omega
    subst this; rfl
theorem canR_len {n : Int} {xs : List Int} (h : isCx n xs = true) : (canR n xs).length = xs.length := by
  obtain ⟨m, fs, rfl, hm1, hm6, hxs, hfs, hf, hfl, hnd⟩ := cx_nat h
  have hcan : canR (m : Int) xs = bestL fs (namL m m []) xs := by unfold canR; rw [if_pos h, hfs]; rfl
  rw [hcan]
  subst hxs
  rw [bestL_len hm6 hf hnd _ _ (fun ns hns => namL_good hns) (ofN_length fs), ofN_length]
theorem alB_len {n m : Int} {xs ys : List Int} (h : alB n xs m ys = true) : n = m ∧ xs.length = ys.length := by
  unfold alB at h
  simp only [Bool.and_eq_true, decide_eq_true_eq] at h
  obtain ⟨⟨h1, h2⟩, h3, h4⟩ := h
  exact ⟨h3, by rw [← canR_len h1, ← canR_len h2, h4]⟩
theorem alB_no {n m : Int} {xs ys : List Int} (h : ¬ (n = m ∧ xs.length = ys.length)) : alB n xs m ys = false := by
  cases hb : alB n xs m ys with
  | false => rfl
  | true => exact absurd (alB_len hb) h
theorem c_spec_ExampleOf (n : Int) (xs : List Int) : AC Try.prog 8 [.ag [int n, ints xs]] (.im (int (exR n xs))) := by
  refine AC.go (rs := [.tmp 2]) T_ok mixed Try.func8 rfl rfl rfl (by kernel_rfl) fun hl => ?_
  simp (maxSteps := 5000000) -dsimp only [↓gp, gq, reduceCtorEq, Nat.reduceEqDiff, Nat.reduceLT, Nat.reduceLeDiff, Nat.reduceAdd, Nat.reduceMul, Nat.reduceSub, Nat.reduceBEq, Int.reduceToNat, Int.reduceLE, Int.reduceLT, Int.reduceNeg, Nat.reduceMod, sid_ne1, sid_ne2, sid_inj, sid_mod, gT, TK.isInt, TK.agg, Array.toList]
  refine loop_of (fun (k : Nat) s => s.sl 1 = .ref 1 1 0 ∧ s.rw 1 = ⟨1, .box 27 [int n, ints xs]⟩ ∧ s.sl 3 = int ((k + 1 : Nat) : Int) ∧ (k ≤ 8 ∧ exR n xs = exF n xs (k + 1) (8 - k))) (fun k => 8 - k) (0) (by refine ⟨?_, ?_, ?_, ⟨by omega, rfl⟩⟩ <;> (first | (simp (maxSteps := 5000000) -dsimp only [gr, Nat.reduceEqDiff, Nat.reduceLT, Nat.reduceAdd, Nat.reduceMod, Nat.reduceBEq, sid_mod, sid_ne1, sid_ne2, sid_inj]; first | done | rfl | (simp; done)) | assumption | rfl)) ?_
  intro k sa ⟨h1a, r1a, h3a, hIa⟩
  obtain ⟨hk, he⟩ := hIa
  rw [he]
  simp (maxSteps := 5000000) -dsimp only [↓gp, gq, reduceCtorEq, Nat.reduceEqDiff, Nat.reduceLT, Nat.reduceLeDiff, Nat.reduceAdd, Nat.reduceMul, Nat.reduceSub, Nat.reduceBEq, Int.reduceToNat, Int.reduceLE, Int.reduceLT, Int.reduceNeg, Nat.reduceMod, sid_ne1, sid_ne2, sid_inj, sid_mod, gT, TK.isInt, TK.agg, Array.toList, h1a, r1a, h3a]
  refine askK_of c_spec_CountExamples ?_
  simp (maxSteps := 5000000) -dsimp only [↓gp, gq, reduceCtorEq, Nat.reduceEqDiff, Nat.reduceLT, Nat.reduceLeDiff, Nat.reduceAdd, Nat.reduceMul, Nat.reduceSub, Nat.reduceBEq, Int.reduceToNat, Int.reduceLE, Int.reduceLT, Int.reduceNeg, Nat.reduceMod, sid_ne1, sid_ne2, sid_inj, sid_mod, gT, TK.isInt, TK.agg, Array.toList, h1a, r1a, h3a]
  refine ⟨fun h => askK_of (c_spec_ExampleComplex _) ?_, fun h => ?_⟩
  · have hk8 : k < 8 := by omega
    have e8 : 8 - k = (8 - (k + 1)) + 1 := by omega
    have hs : exF n xs (k + 1) (8 - k) = if alB (exPts ((k + 1 : Nat) : Int)) (facs (exPs ((k + 1 : Nat) : Int))) n xs = true then ((k + 1 : Nat) : Int) else exF n xs (k + 1 + 1) (8 - (k + 1)) := by rw [e8, exF]
    rw [hs]
    simp (maxSteps := 5000000) -dsimp only [↓gp, gq, reduceCtorEq, Nat.reduceEqDiff, Nat.reduceLT, Nat.reduceLeDiff, Nat.reduceAdd, Nat.reduceMul, Nat.reduceSub, Nat.reduceBEq, Int.reduceToNat, Int.reduceLE, Int.reduceLT, Int.reduceNeg, Nat.reduceMod, sid_ne1, sid_ne2, sid_inj, sid_mod, gT, TK.isInt, TK.agg, Array.toList, h1a, r1a, h3a]
    refine ⟨fun h1 => ⟨fun h2 => askK_of (c_spec_AreAlike _ n _ xs) ?_, fun h2 => ?_⟩, fun h1 => ?_⟩
    · simp (maxSteps := 5000000) -dsimp only [↓gp, gq, reduceCtorEq, Nat.reduceEqDiff, Nat.reduceLT, Nat.reduceLeDiff, Nat.reduceAdd, Nat.reduceMul, Nat.reduceSub, Nat.reduceBEq, Int.reduceToNat, Int.reduceLE, Int.reduceLT, Int.reduceNeg, Nat.reduceMod, sid_ne1, sid_ne2, sid_inj, sid_mod, gT, TK.isInt, TK.agg, Array.toList, h1a, r1a, h3a]
      refine ⟨fun ha => by rw [if_pos ha], fun ha => ?_⟩
      have hn : ¬ alB (exPts ((k + 1 : Nat) : Int)) (facs (exPs ((k + 1 : Nat) : Int))) n xs = true := by rw [ha]; decide
      exact again_of (k + 1) (by refine ⟨?_, ?_, ?_, ⟨by omega, by rw [if_neg hn]⟩⟩ <;> (first | (simp (maxSteps := 5000000) -dsimp only [gr, Nat.reduceEqDiff, Nat.reduceLT, Nat.reduceAdd, Nat.reduceMod, Nat.reduceBEq, sid_mod, sid_ne1, sid_ne2, sid_inj, h1a, r1a, h3a, wrap_nat (show k + 1 < 9 by omega) (by omega)]; first | done | rfl | (simp; done)) | assumption | rfl)) (by first | omega | (simp only; omega) | (dsimp only; omega) | (show _ < _; simp; omega))
    · have hn : ¬ alB (exPts ((k + 1 : Nat) : Int)) (facs (exPs ((k + 1 : Nat) : Int))) n xs = true := by
        rw [alB_no fun e => by rw [e.2] at h2; simp at h2]; decide
      exact again_of (k + 1) (by refine ⟨?_, ?_, ?_, ⟨by omega, by rw [if_neg hn]⟩⟩ <;> (first | (simp (maxSteps := 5000000) -dsimp only [gr, Nat.reduceEqDiff, Nat.reduceLT, Nat.reduceAdd, Nat.reduceMod, Nat.reduceBEq, sid_mod, sid_ne1, sid_ne2, sid_inj, h1a, r1a, h3a, wrap_nat (show k + 1 < 9 by omega) (by omega)]; first | done | rfl | (simp; done)) | assumption | rfl)) (by first | omega | (simp only; omega) | (dsimp only; omega) | (show _ < _; simp; omega))
    · have hn : ¬ alB (exPts ((k + 1 : Nat) : Int)) (facs (exPs ((k + 1 : Nat) : Int))) n xs = true := by
        rw [alB_no fun e => by rw [e.1] at h1; simp at h1]; decide
      exact again_of (k + 1) (by refine ⟨?_, ?_, ?_, ⟨by omega, by rw [if_neg hn]⟩⟩ <;> (first | (simp (maxSteps := 5000000) -dsimp only [gr, Nat.reduceEqDiff, Nat.reduceLT, Nat.reduceAdd, Nat.reduceMod, Nat.reduceBEq, sid_mod, sid_ne1, sid_ne2, sid_inj, h1a, r1a, h3a, wrap_nat (show k + 1 < 9 by omega) (by omega)]; first | done | rfl | (simp; done)) | assumption | rfl)) (by first | omega | (simp only; omega) | (dsimp only; omega) | (show _ < _; simp; omega))
  · have : k = 8 := by omega
    subst this; rfl
end Go.Proofs.Ytpnknaaehcljoaa
