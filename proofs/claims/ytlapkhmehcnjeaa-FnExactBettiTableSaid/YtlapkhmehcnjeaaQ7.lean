/- DERIVED by an AI agent. -/
import Derived.Test.YtlapkhmehcnjeaaQ6
import Derived.Test.YtlapkhmehcnjeaaP1
namespace Go.Proofs.Ytlapkhmehcnjeaa
open Go.Abs
set_option linter.unusedSimpArgs false
set_option linter.unusedVariables false

theorem betR_sq (n : Int) (xs : List Int) (p : Int) : SqB (betR n xs p) := by
  unfold betR
  split
  · rename_i h
    obtain ⟨h1, h6, _⟩ := isCx_iff.1 (hasF_iff.1 h.1).1
    exact .of (betT_sq _ p (n := n.toNat) (by omega)) (by omega)
  · exact .nil
theorem flat_map (M : Mat) : (M.map iL).map (fun r => PV.sl false 1 r) = iLL M := by unfold iLL; rw [List.map_map]; rfl
theorem c_spec_BettiTableF (n : Int) (xs : List Int) (p : Int) : AC Try.prog 38 [.ag [int n, ints xs], int p] (.fr 22 1 (iLL (betR n xs p))) := flat_map (betR n xs p) ▸ (c_spec_BettiTable n xs p).flat
theorem c_impl_BettiTableF (n : Int) (xs : List Int) (p : Int) : AC Try.prog 39 [.ag [int n, ints xs], int p] (.fr 22 1 (iLL (betR n xs p))) := flat_map (betR n xs p) ▸ (c_impl_BettiTable n xs p).flat
noncomputable def betAt (n : Int) (xs : List Int) (p i j : Int) : Int := if 0 ≤ i ∧ i < ((betR n xs p).length : Int) ∧ 0 ≤ j ∧ j < ((betR n xs p).length : Int) then ((betR n xs p).getD i.toNat []).getD j.toNat 0 else 0
theorem c_spec_BettiAt (n : Int) (xs : List Int) (p i j : Int) : AC Try.prog 24 [.ag [int n, ints xs], int p, int i, int j] (.im (int (betAt n xs p i j))) := by
  refine AC.go (rs := [.tmp 8]) T_ok mixed Try.func24 rfl rfl rfl (by kernel_rfl) fun hl => ?_
  simp (maxSteps := 5000000) -dsimp only [↓gp, gq, reduceCtorEq, Nat.reduceEqDiff, Nat.reduceLT, Nat.reduceLeDiff, Nat.reduceAdd, Nat.reduceMul, Nat.reduceSub, Nat.reduceBEq, Int.reduceToNat, Int.reduceLE, Int.reduceLT, Int.reduceNeg, Nat.reduceMod, sid_ne1, sid_ne2, sid_inj, sid_mod, gT, TK.isInt, TK.agg, Array.toList]
  refine askK_of (c_spec_BettiTableF n xs p) ?_
  have hsq := betR_sq n xs p
  unfold betAt
  generalize betR n xs p = M at *
  have hl7 := hsq.len
  have hw : IntKind.i64.wrap ((M.length : Int) - 1) = (M.length : Int) - 1 := wrap_id (by omega) (by omega)
  simp (maxSteps := 5000000) -dsimp only [↓gp, gq, reduceCtorEq, Nat.reduceEqDiff, Nat.reduceLT, Nat.reduceLeDiff, Nat.reduceAdd, Nat.reduceMul, Nat.reduceSub, Nat.reduceBEq, Int.reduceToNat, Int.reduceLE, Int.reduceLT, Int.reduceNeg, Nat.reduceMod, sid_ne1, sid_ne2, sid_inj, sid_mod, gT, TK.isInt, TK.agg, Array.toList, hw]
  refine askK_of (c_spec_l1In _ _ _) ?_
  simp (maxSteps := 5000000) -dsimp only [↓gp, gq, reduceCtorEq, Nat.reduceEqDiff, Nat.reduceLT, Nat.reduceLeDiff, Nat.reduceAdd, Nat.reduceMul, Nat.reduceSub, Nat.reduceBEq, Int.reduceToNat, Int.reduceLE, Int.reduceLT, Int.reduceNeg, Nat.reduceMod, sid_ne1, sid_ne2, sid_inj, sid_mod, gT, TK.isInt, TK.agg, Array.toList, hw]
  refine ⟨fun h1 => askK_of (c_spec_l1In _ _ _) ?_, fun h1 => ?_⟩
  · simp only [Bool.not_eq_false', Bool.and_eq_true, decide_eq_true_iff] at h1
    simp (maxSteps := 5000000) -dsimp only [↓gp, gq, reduceCtorEq, Nat.reduceEqDiff, Nat.reduceLT, Nat.reduceLeDiff, Nat.reduceAdd, Nat.reduceMul, Nat.reduceSub, Nat.reduceBEq, Int.reduceToNat, Int.reduceLE, Int.reduceLT, Int.reduceNeg, Nat.reduceMod, sid_ne1, sid_ne2, sid_inj, sid_mod, gT, TK.isInt, TK.agg, Array.toList, hw]
    refine ⟨fun h2 => ?_, fun h2 => ?_⟩
    · simp only [Bool.not_eq_true', Bool.and_eq_false_iff, decide_eq_false_iff_not] at h2
      exact if_neg (by omega)
    · simp only [Bool.not_eq_false', Bool.and_eq_true, decide_eq_true_iff] at h2
      have hr := hsq.row i.toNat (by omega)
      exact ⟨by omega, by omega, by omega, by omega, by omega, by omega, if_pos (by omega)⟩
  · simp only [Bool.not_eq_true', Bool.and_eq_false_iff, decide_eq_false_iff_not] at h1
    exact if_neg (by omega)
theorem c_impl_BettiAt (n : Int) (xs : List Int) (p i j : Int) : AC Try.prog 25 [.ag [int n, ints xs], int p, int i, int j] (.im (int (betAt n xs p i j))) := by
  refine AC.go (rs := [.tmp 8]) T_ok mixed Try.func25 rfl rfl rfl (by kernel_rfl) fun hl => ?_
  simp (maxSteps := 5000000) -dsimp only [↓gp, gq, reduceCtorEq, Nat.reduceEqDiff, Nat.reduceLT, Nat.reduceLeDiff, Nat.reduceAdd, Nat.reduceMul, Nat.reduceSub, Nat.reduceBEq, Int.reduceToNat, Int.reduceLE, Int.reduceLT, Int.reduceNeg, Nat.reduceMod, sid_ne1, sid_ne2, sid_inj, sid_mod, gT, TK.isInt, TK.agg, Array.toList]
  refine askK_of (c_impl_BettiTableF n xs p) ?_
  have hsq := betR_sq n xs p
  unfold betAt
  generalize betR n xs p = M at *
  have hl7 := hsq.len
  simp (maxSteps := 5000000) -dsimp only [↓gp, gq, reduceCtorEq, Nat.reduceEqDiff, Nat.reduceLT, Nat.reduceLeDiff, Nat.reduceAdd, Nat.reduceMul, Nat.reduceSub, Nat.reduceBEq, Int.reduceToNat, Int.reduceLE, Int.reduceLT, Int.reduceNeg, Nat.reduceMod, sid_ne1, sid_ne2, sid_inj, sid_mod, gT, TK.isInt, TK.agg, Array.toList]
  refine ⟨fun a => ⟨fun b => ⟨fun c => ⟨fun d => if_neg (by omega), fun d => ?_⟩, fun c => if_neg (by omega)⟩, fun b => if_neg (by omega)⟩, fun a => if_neg (by omega)⟩
  have hr := hsq.row i.toNat (by omega)
  exact ⟨by omega, by omega, by omega, by omega, by omega, by omega, if_pos (by omega)⟩
end Go.Proofs.Ytlapkhmehcnjeaa

namespace Go.Proofs.Ytlapkhmehcnjeaa
open Go.Abs
set_option linter.unusedSimpArgs false
set_option linter.unusedVariables false

noncomputable def regO (n : Int) (xs : List Int) (p : Int) : Int := regM (betR n xs p) (betR n xs p).length
noncomputable def lenO (n : Int) (xs : List Int) (p : Int) : Int := lenM (betR n xs p) (betR n xs p).length
theorem c_spec_RegularityOf (n : Int) (xs : List Int) (p : Int) : AC Try.prog 28 [.ag [int n, ints xs], int p] (.im (int (regO n xs p))) := by
  refine AC.go (rs := [.tmp 4]) T_ok mixed Try.func28 rfl rfl rfl (by kernel_rfl) fun hl => ?_
  simp (maxSteps := 5000000) -dsimp only [↓gp, gq, reduceCtorEq, Nat.reduceEqDiff, Nat.reduceLT, Nat.reduceLeDiff, Nat.reduceAdd, Nat.reduceMul, Nat.reduceSub, Nat.reduceBEq, Int.reduceToNat, Int.reduceLE, Int.reduceLT, Int.reduceNeg, Nat.reduceMod, sid_ne1, sid_ne2, sid_inj, sid_mod, gT, TK.isInt, TK.agg, Array.toList]
  refine askK_of (c_spec_BettiTableF n xs p) ?_
  have hsq := betR_sq n xs p
  unfold regO
  generalize betR n xs p = M at *
  have hl7 := hsq.len
  simp (maxSteps := 5000000) -dsimp only [↓gp, gq, reduceCtorEq, Nat.reduceEqDiff, Nat.reduceLT, Nat.reduceLeDiff, Nat.reduceAdd, Nat.reduceMul, Nat.reduceSub, Nat.reduceBEq, Int.reduceToNat, Int.reduceLE, Int.reduceLT, Int.reduceNeg, Nat.reduceMod, sid_ne1, sid_ne2, sid_inj, sid_mod, gT, TK.isInt, TK.agg, Array.toList]
  refine loop_of (fun (i : Nat) s => s.sl 5 = int (regM M i) ∧ s.sl 6 = .own 11 1 ∧ s.rw 11 = ⟨1, .sli 22 1 false (iLL M)⟩ ∧ s.sl 7 = int i ∧ (i ≤ M.length)) (fun i => M.length - i) (0) (by refine ⟨?_, ?_, ?_, ?_, by omega⟩ <;> (first | (simp (maxSteps := 5000000) -dsimp only [gr, Nat.reduceEqDiff, Nat.reduceLT, Nat.reduceAdd, Nat.reduceMod, Nat.reduceBEq, sid_mod, sid_ne1, sid_ne2, sid_inj, regM]; first | done | rfl | (simp; done)) | assumption | rfl)) ?_
  intro i sa ⟨h5a, h6a, r11a, h7a, hIa⟩
  have hge := regM_ge M i
  have hle := regM_le hsq i
  simp (maxSteps := 5000000) -dsimp only [↓gp, gq, reduceCtorEq, Nat.reduceEqDiff, Nat.reduceLT, Nat.reduceLeDiff, Nat.reduceAdd, Nat.reduceMul, Nat.reduceSub, Nat.reduceBEq, Int.reduceToNat, Int.reduceLE, Int.reduceLT, Int.reduceNeg, Nat.reduceMod, sid_ne1, sid_ne2, sid_inj, sid_mod, gT, TK.isInt, TK.agg, Array.toList, h5a, h6a, r11a, h7a]
  refine ⟨fun h => ?_, fun h => ?_⟩
  · have hr := hsq.row i h
    have hlow := regR_low (M.getD i []) hge i (Nat.le_refl _)
    refine loop_of (fun (j : Nat) s => s.sl 5 = int (regR i (M.getD i []) (regM M i) j) ∧ s.sl 6 = .own 11 1 ∧ s.rw 11 = ⟨1, .sli 22 1 false (iLL M)⟩ ∧ s.sl 7 = int i ∧ s.sl 8 = int j ∧ (i ≤ j ∧ j ≤ M.length)) (fun j => M.length - j) (i) (by refine ⟨?_, ?_, ?_, ?_, ?_, by omega⟩ <;> (first | (simp (maxSteps := 5000000) -dsimp only [gr, Nat.reduceEqDiff, Nat.reduceLT, Nat.reduceAdd, Nat.reduceMod, Nat.reduceBEq, sid_mod, sid_ne1, sid_ne2, sid_inj, h5a, h6a, r11a, h7a, hlow]; first | done | rfl | (simp; done)) | assumption | rfl)) ?_
    intro j sb ⟨h5b, h6b, r11b, h7b, h8b, hIb⟩
    simp (maxSteps := 5000000) -dsimp only [↓gp, gq, reduceCtorEq, Nat.reduceEqDiff, Nat.reduceLT, Nat.reduceLeDiff, Nat.reduceAdd, Nat.reduceMul, Nat.reduceSub, Nat.reduceBEq, Int.reduceToNat, Int.reduceLE, Int.reduceLT, Int.reduceNeg, Nat.reduceMod, sid_ne1, sid_ne2, sid_inj, sid_mod, gT, TK.isInt, TK.agg, Array.toList, h5b, h6b, r11b, h7b, h8b]
    refine ⟨fun h2 => ?_, fun h2 => ?_⟩
    · have hw : IntKind.i64.wrap ((j : Int) - (i : Int)) = (j : Int) - i := wrap_id (by omega) (by omega)
      simp (maxSteps := 5000000) -dsimp only [↓gp, gq, reduceCtorEq, Nat.reduceEqDiff, Nat.reduceLT, Nat.reduceLeDiff, Nat.reduceAdd, Nat.reduceMul, Nat.reduceSub, Nat.reduceBEq, Int.reduceToNat, Int.reduceLE, Int.reduceLT, Int.reduceNeg, Nat.reduceMod, sid_ne1, sid_ne2, sid_inj, sid_mod, gT, TK.isInt, TK.agg, Array.toList, h5b, h6b, r11b, h7b, h8b, hr, hw]
      refine ⟨h, h, h2, h2, fun h0 => askK_of (c_spec_l1Max _ _) ?_, fun h0 => ?_⟩
      · have e : regR i (M.getD i []) (regM M i) (j + 1) = max (regR i (M.getD i []) (regM M i) j) ((j : Int) - i) := by rw [regR, if_neg (by simpa using h0)]
        simp (maxSteps := 5000000) -dsimp only [↓gp, gq, reduceCtorEq, Nat.reduceEqDiff, Nat.reduceLT, Nat.reduceLeDiff, Nat.reduceAdd, Nat.reduceMul, Nat.reduceSub, Nat.reduceBEq, Int.reduceToNat, Int.reduceLE, Int.reduceLT, Int.reduceNeg, Nat.reduceMod, sid_ne1, sid_ne2, sid_inj, sid_mod, gT, TK.isInt, TK.agg, Array.toList, h5b, h6b, r11b, h7b, h8b, hr, hw]
        exact again_of (j + 1) (by refine ⟨?_, ?_, ?_, ?_, ?_, by omega⟩ <;> (first | (simp (maxSteps := 5000000) -dsimp only [gr, Nat.reduceEqDiff, Nat.reduceLT, Nat.reduceAdd, Nat.reduceMod, Nat.reduceBEq, sid_mod, sid_ne1, sid_ne2, sid_inj, h5b, h6b, r11b, h7b, h8b, wrap_nat h2 (by omega), e]; first | done | rfl | (simp; done)) | assumption | rfl)) (by first | omega | (simp only; omega) | (dsimp only; omega) | (show _ < _; simp; omega))
      · have e : regR i (M.getD i []) (regM M i) (j + 1) = regR i (M.getD i []) (regM M i) j := by rw [regR, if_pos (by simpa using h0)]
        exact again_of (j + 1) (by refine ⟨?_, ?_, ?_, ?_, ?_, by omega⟩ <;> (first | (simp (maxSteps := 5000000) -dsimp only [gr, Nat.reduceEqDiff, Nat.reduceLT, Nat.reduceAdd, Nat.reduceMod, Nat.reduceBEq, sid_mod, sid_ne1, sid_ne2, sid_inj, h5b, h6b, r11b, h7b, h8b, wrap_nat h2 (by omega), e]; first | done | rfl | (simp; done)) | assumption | rfl)) (by first | omega | (simp only; omega) | (dsimp only; omega) | (show _ < _; simp; omega))
    · have : j = (M.getD i []).length := by omega
      subst this
      exact again_of (i + 1) (by refine ⟨?_, ?_, ?_, ?_, by omega⟩ <;> (first | (simp (maxSteps := 5000000) -dsimp only [gr, Nat.reduceEqDiff, Nat.reduceLT, Nat.reduceAdd, Nat.reduceMod, Nat.reduceBEq, sid_mod, sid_ne1, sid_ne2, sid_inj, h5a, h6a, r11a, h7a, h5b, h6b, r11b, h7b, h8b, wrap_nat h (by omega), regM]; first | done | rfl | (simp; done)) | assumption | rfl)) (by first | omega | (simp only; omega) | (dsimp only; omega) | (show _ < _; simp; omega))
  · have : i = M.length := by omega
    rw [this]
theorem c_impl_RegularityOf (n : Int) (xs : List Int) (p : Int) : AC Try.prog 29 [.ag [int n, ints xs], int p] (.im (int (regO n xs p))) := by
  refine AC.go (rs := [.tmp 4]) T_ok mixed Try.func29 rfl rfl rfl (by kernel_rfl) fun hl => ?_
  simp (maxSteps := 5000000) -dsimp only [↓gp, gq, reduceCtorEq, Nat.reduceEqDiff, Nat.reduceLT, Nat.reduceLeDiff, Nat.reduceAdd, Nat.reduceMul, Nat.reduceSub, Nat.reduceBEq, Int.reduceToNat, Int.reduceLE, Int.reduceLT, Int.reduceNeg, Nat.reduceMod, sid_ne1, sid_ne2, sid_inj, sid_mod, gT, TK.isInt, TK.agg, Array.toList]
  refine askK_of (c_impl_BettiTableF n xs p) ?_
  have hsq := betR_sq n xs p
  unfold regO
  generalize betR n xs p = M at *
  have hl7 := hsq.len
  simp (maxSteps := 5000000) -dsimp only [↓gp, gq, reduceCtorEq, Nat.reduceEqDiff, Nat.reduceLT, Nat.reduceLeDiff, Nat.reduceAdd, Nat.reduceMul, Nat.reduceSub, Nat.reduceBEq, Int.reduceToNat, Int.reduceLE, Int.reduceLT, Int.reduceNeg, Nat.reduceMod, sid_ne1, sid_ne2, sid_inj, sid_mod, gT, TK.isInt, TK.agg, Array.toList]
  refine loop_of (fun (i : Nat) s => s.sl 5 = int (regM M i) ∧ s.sl 12 = .own 12 1 ∧ s.rw 12 = ⟨1, .sli 22 1 false (iLL M)⟩ ∧ s.sl 13 = int M.length ∧ s.sl 14 = int i ∧ (i ≤ M.length)) (fun i => M.length - i) (0) (by refine ⟨?_, ?_, ?_, ?_, ?_, by omega⟩ <;> (first | (simp (maxSteps := 5000000) -dsimp only [gr, Nat.reduceEqDiff, Nat.reduceLT, Nat.reduceAdd, Nat.reduceMod, Nat.reduceBEq, sid_mod, sid_ne1, sid_ne2, sid_inj, regM]; first | done | rfl | (simp; done)) | assumption | rfl)) ?_
  intro i sa ⟨h5a, h12a, r12a, h13a, h14a, hIa⟩
  simp (maxSteps := 5000000) -dsimp only [↓gp, gq, reduceCtorEq, Nat.reduceEqDiff, Nat.reduceLT, Nat.reduceLeDiff, Nat.reduceAdd, Nat.reduceMul, Nat.reduceSub, Nat.reduceBEq, Int.reduceToNat, Int.reduceLE, Int.reduceLT, Int.reduceNeg, Nat.reduceMod, sid_ne1, sid_ne2, sid_inj, sid_mod, gT, TK.isInt, TK.agg, Array.toList, h5a, h12a, r12a, h13a, h14a]
  refine ⟨fun h => ⟨h, h, ?_⟩, fun h => ?_⟩
  · have hr := hsq.row i h
    refine loop_of (fun (j : Nat) s => s.sl 5 = int (regR i (M.getD i []) (regM M i) j) ∧ s.sl 6 = int i ∧ s.sl 12 = .own 12 1 ∧ s.rw 12 = ⟨1, .sli 22 1 false (iLL M)⟩ ∧ s.sl 13 = int M.length ∧ s.sl 14 = int i ∧ s.sl 19 = .sl true 1 (iL (M.getD i [])) ∧ s.sl 20 = int M.length ∧ s.sl 21 = int j ∧ (j ≤ M.length)) (fun j => M.length - j) (0) (by refine ⟨?_, ?_, ?_, ?_, ?_, ?_, ?_, ?_, ?_, by omega⟩ <;> (first | (simp (maxSteps := 5000000) -dsimp only [gr, Nat.reduceEqDiff, Nat.reduceLT, Nat.reduceAdd, Nat.reduceMod, Nat.reduceBEq, sid_mod, sid_ne1, sid_ne2, sid_inj, h5a, h12a, r12a, h13a, h14a, hr, regR]; first | done | rfl | (simp; done)) | assumption | rfl)) ?_
    intro j sb ⟨h5b, h6b, h12b, r12b, h13b, h14b, h19b, h20b, h21b, hIb⟩
    simp (maxSteps := 5000000) -dsimp only [↓gp, gq, reduceCtorEq, Nat.reduceEqDiff, Nat.reduceLT, Nat.reduceLeDiff, Nat.reduceAdd, Nat.reduceMul, Nat.reduceSub, Nat.reduceBEq, Int.reduceToNat, Int.reduceLE, Int.reduceLT, Int.reduceNeg, Nat.reduceMod, sid_ne1, sid_ne2, sid_inj, sid_mod, gT, TK.isInt, TK.agg, Array.toList, h5b, h6b, h12b, r12b, h13b, h14b, h19b, h20b, h21b, hr]
    refine ⟨fun h2 => ⟨h2, h2, ?_⟩, fun h2 => ?_⟩
    · have hw : IntKind.i64.wrap ((j : Int) - (i : Int)) = (j : Int) - i := wrap_id (by omega) (by omega)
      simp (maxSteps := 5000000) -dsimp only [↓gp, gq, reduceCtorEq, Nat.reduceEqDiff, Nat.reduceLT, Nat.reduceLeDiff, Nat.reduceAdd, Nat.reduceMul, Nat.reduceSub, Nat.reduceBEq, Int.reduceToNat, Int.reduceLE, Int.reduceLT, Int.reduceNeg, Nat.reduceMod, sid_ne1, sid_ne2, sid_inj, sid_mod, gT, TK.isInt, TK.agg, Array.toList, h5b, h6b, h12b, r12b, h13b, h14b, h19b, h20b, h21b, hr, hw]
      refine ⟨fun h0 => ?_, fun h0 => ?_⟩
      · have e : regR i (M.getD i []) (regM M i) (j + 1) = if (j : Int) - i > regR i (M.getD i []) (regM M i) j then (j : Int) - i else regR i (M.getD i []) (regM M i) j := by
          rw [regR, if_neg (by simpa using h0)]
          split <;> omega
        exact again_of (j + 1) (by refine ⟨?_, ?_, ?_, ?_, ?_, ?_, ?_, ?_, ?_, by omega⟩ <;> (first | (simp (maxSteps := 5000000) -dsimp only [gr, Nat.reduceEqDiff, Nat.reduceLT, Nat.reduceAdd, Nat.reduceMod, Nat.reduceBEq, sid_mod, sid_ne1, sid_ne2, sid_inj, h5b, h6b, h12b, r12b, h13b, h14b, h19b, h20b, h21b, wrap_nat h2 (by omega), e]; first | done | rfl | (simp; done)) | assumption | rfl)) (by first | omega | (simp only; omega) | (dsimp only; omega) | (show _ < _; simp; omega))
      · have e : regR i (M.getD i []) (regM M i) (j + 1) = regR i (M.getD i []) (regM M i) j := by rw [regR, if_pos (by simpa using h0)]
        exact again_of (j + 1) (by refine ⟨?_, ?_, ?_, ?_, ?_, ?_, ?_, ?_, ?_, by omega⟩ <;> (first | (simp (maxSteps := 5000000) -dsimp only [gr, Nat.reduceEqDiff, Nat.reduceLT, Nat.reduceAdd, Nat.reduceMod, Nat.reduceBEq, sid_mod, sid_ne1, sid_ne2, sid_inj, h5b, h6b, h12b, r12b, h13b, h14b, h19b, h20b, h21b, wrap_nat h2 (by omega), e]; first | done | rfl | (simp; done)) | assumption | rfl)) (by first | omega | (simp only; omega) | (dsimp only; omega) | (show _ < _; simp; omega))
    · have : j = (M.getD i []).length := by omega
      subst this
      exact again_of (i + 1) (by refine ⟨?_, ?_, ?_, ?_, ?_, by omega⟩ <;> (first | (simp (maxSteps := 5000000) -dsimp only [gr, Nat.reduceEqDiff, Nat.reduceLT, Nat.reduceAdd, Nat.reduceMod, Nat.reduceBEq, sid_mod, sid_ne1, sid_ne2, sid_inj, h5a, h12a, r12a, h13a, h14a, h5b, h6b, h12b, r12b, h13b, h14b, h19b, h20b, h21b, wrap_nat h (by omega), regM]; first | done | rfl | (simp; done)) | assumption | rfl)) (by first | omega | (simp only; omega) | (dsimp only; omega) | (show _ < _; simp; omega))
  · have : i = M.length := by omega
    rw [this]
end Go.Proofs.Ytlapkhmehcnjeaa

namespace Go.Proofs.Ytlapkhmehcnjeaa
open Go.Abs
set_option linter.unusedSimpArgs false
set_option linter.unusedVariables false

theorem c_spec_LengthOf (n : Int) (xs : List Int) (p : Int) : AC Try.prog 30 [.ag [int n, ints xs], int p] (.im (int (lenO n xs p))) := by
  refine AC.go (rs := [.tmp 4]) T_ok mixed Try.func30 rfl rfl rfl (by kernel_rfl) fun hl => ?_
  simp (maxSteps := 5000000) -dsimp only [↓gp, gq, reduceCtorEq, Nat.reduceEqDiff, Nat.reduceLT, Nat.reduceLeDiff, Nat.reduceAdd, Nat.reduceMul, Nat.reduceSub, Nat.reduceBEq, Int.reduceToNat, Int.reduceLE, Int.reduceLT, Int.reduceNeg, Nat.reduceMod, sid_ne1, sid_ne2, sid_inj, sid_mod, gT, TK.isInt, TK.agg, Array.toList]
  refine askK_of (c_spec_BettiTableF n xs p) ?_
  have hsq := betR_sq n xs p
  unfold lenO
  generalize betR n xs p = M at *
  have hl7 := hsq.len
  simp (maxSteps := 5000000) -dsimp only [↓gp, gq, reduceCtorEq, Nat.reduceEqDiff, Nat.reduceLT, Nat.reduceLeDiff, Nat.reduceAdd, Nat.reduceMul, Nat.reduceSub, Nat.reduceBEq, Int.reduceToNat, Int.reduceLE, Int.reduceLT, Int.reduceNeg, Nat.reduceMod, sid_ne1, sid_ne2, sid_inj, sid_mod, gT, TK.isInt, TK.agg, Array.toList]
  refine loop_of (fun (i : Nat) s => s.sl 5 = int (lenM M i) ∧ s.sl 6 = .own 11 1 ∧ s.rw 11 = ⟨1, .sli 22 1 false (iLL M)⟩ ∧ s.sl 7 = int i ∧ (i ≤ M.length)) (fun i => M.length - i) (0) (by refine ⟨?_, ?_, ?_, ?_, by omega⟩ <;> (first | (simp (maxSteps := 5000000) -dsimp only [gr, Nat.reduceEqDiff, Nat.reduceLT, Nat.reduceAdd, Nat.reduceMod, Nat.reduceBEq, sid_mod, sid_ne1, sid_ne2, sid_inj, lenM]; first | done | rfl | (simp; done)) | assumption | rfl)) ?_
  intro i sa ⟨h5a, h6a, r11a, h7a, hIa⟩
  simp (maxSteps := 5000000) -dsimp only [↓gp, gq, reduceCtorEq, Nat.reduceEqDiff, Nat.reduceLT, Nat.reduceLeDiff, Nat.reduceAdd, Nat.reduceMul, Nat.reduceSub, Nat.reduceBEq, Int.reduceToNat, Int.reduceLE, Int.reduceLT, Int.reduceNeg, Nat.reduceMod, sid_ne1, sid_ne2, sid_inj, sid_mod, gT, TK.isInt, TK.agg, Array.toList, h5a, h6a, r11a, h7a]
  refine ⟨fun h => ?_, fun h => ?_⟩
  · have hr := hsq.row i h
    have hnz0 : nzR ((M.getD i []).take 0) = false := rfl
    refine loop_of (fun (j : Nat) s => s.sl 5 = int (if nzR ((M.getD i []).take j) = true then (i : Int) else lenM M i) ∧ s.sl 6 = .own 11 1 ∧ s.rw 11 = ⟨1, .sli 22 1 false (iLL M)⟩ ∧ s.sl 7 = int i ∧ s.sl 8 = int j ∧ (j ≤ M.length)) (fun j => M.length - j) (0) (by refine ⟨?_, ?_, ?_, ?_, ?_, by omega⟩ <;> (first | (simp (maxSteps := 5000000) -dsimp only [gr, Nat.reduceEqDiff, Nat.reduceLT, Nat.reduceAdd, Nat.reduceMod, Nat.reduceBEq, sid_mod, sid_ne1, sid_ne2, sid_inj, h5a, h6a, r11a, h7a, hnz0]; first | done | rfl | (simp; done)) | assumption | rfl)) ?_
    intro j sb ⟨h5b, h6b, r11b, h7b, h8b, hIb⟩
    simp (maxSteps := 5000000) -dsimp only [↓gp, gq, reduceCtorEq, Nat.reduceEqDiff, Nat.reduceLT, Nat.reduceLeDiff, Nat.reduceAdd, Nat.reduceMul, Nat.reduceSub, Nat.reduceBEq, Int.reduceToNat, Int.reduceLE, Int.reduceLT, Int.reduceNeg, Nat.reduceMod, sid_ne1, sid_ne2, sid_inj, sid_mod, gT, TK.isInt, TK.agg, Array.toList, h5b, h6b, r11b, h7b, h8b]
    refine ⟨fun h2 => ?_, fun h2 => ?_⟩
    · have hs := nzR_snoc (r := M.getD i []) (k := j) (by omega)
      simp (maxSteps := 5000000) -dsimp only [↓gp, gq, reduceCtorEq, Nat.reduceEqDiff, Nat.reduceLT, Nat.reduceLeDiff, Nat.reduceAdd, Nat.reduceMul, Nat.reduceSub, Nat.reduceBEq, Int.reduceToNat, Int.reduceLE, Int.reduceLT, Int.reduceNeg, Nat.reduceMod, sid_ne1, sid_ne2, sid_inj, sid_mod, gT, TK.isInt, TK.agg, Array.toList, h5b, h6b, r11b, h7b, h8b, hr]
      refine ⟨h, h, h2, h2, fun h0 => ?_, fun h0 => ?_⟩
      · rw [h0, Bool.or_true] at hs
        exact again_of (j + 1) (by refine ⟨?_, ?_, ?_, ?_, ?_, by omega⟩ <;> (first | (simp (maxSteps := 5000000) -dsimp only [gr, Nat.reduceEqDiff, Nat.reduceLT, Nat.reduceAdd, Nat.reduceMod, Nat.reduceBEq, sid_mod, sid_ne1, sid_ne2, sid_inj, h5b, h6b, r11b, h7b, h8b, wrap_nat h2 (by omega), hs]; first | done | rfl | (simp; done)) | assumption | rfl)) (by first | omega | (simp only; omega) | (dsimp only; omega) | (show _ < _; simp; omega))
      · rw [h0, Bool.or_false] at hs
        exact again_of (j + 1) (by refine ⟨?_, ?_, ?_, ?_, ?_, by omega⟩ <;> (first | (simp (maxSteps := 5000000) -dsimp only [gr, Nat.reduceEqDiff, Nat.reduceLT, Nat.reduceAdd, Nat.reduceMod, Nat.reduceBEq, sid_mod, sid_ne1, sid_ne2, sid_inj, h5b, h6b, r11b, h7b, h8b, wrap_nat h2 (by omega), hs]; first | done | rfl | (simp; done)) | assumption | rfl)) (by first | omega | (simp only; omega) | (dsimp only; omega) | (show _ < _; simp; omega))
    · have ht : (M.getD i []).take j = M.getD i [] := List.take_of_length_le (by omega)
      rw [ht] at h5b
      exact again_of (i + 1) (by refine ⟨?_, ?_, ?_, ?_, by omega⟩ <;> (first | (simp (maxSteps := 5000000) -dsimp only [gr, Nat.reduceEqDiff, Nat.reduceLT, Nat.reduceAdd, Nat.reduceMod, Nat.reduceBEq, sid_mod, sid_ne1, sid_ne2, sid_inj, h5a, h6a, r11a, h7a, h5b, h6b, r11b, h7b, h8b, wrap_nat h (by omega), lenM]; first | done | rfl | (simp; done)) | assumption | rfl)) (by first | omega | (simp only; omega) | (dsimp only; omega) | (show _ < _; simp; omega))
  · have : i = M.length := by omega
    rw [this]
theorem c_impl_isZeroList (r : List Int) : AC Try.prog 95 [ints r] (.im (bool (!nzR r))) := by
  refine AC.go (rs := [.tmp 2]) T_ok mixed Try.func95 rfl rfl rfl (by kernel_rfl) fun hl => ?_
  simp only [lens_cons, lens_nil, and_true, lens2_ag2, lens1_v, lens1_iL, lens2_iL, lens2_v, true_and] at hl
  simp (maxSteps := 5000000) -dsimp only [↓gp, gq, reduceCtorEq, Nat.reduceEqDiff, Nat.reduceLT, Nat.reduceLeDiff, Nat.reduceAdd, Nat.reduceMul, Nat.reduceSub, Nat.reduceBEq, Int.reduceToNat, Int.reduceLE, Int.reduceLT, Int.reduceNeg, Nat.reduceMod, sid_ne1, sid_ne2, sid_inj, sid_mod, gT, TK.isInt, TK.agg, Array.toList]
  refine loop_of (fun (k : Nat) s => s.sl 5 = ints r ∧ s.sl 6 = int r.length ∧ s.sl 7 = int k ∧ (k ≤ r.length ∧ nzR (r.take k) = false)) (fun k => r.length - k) (0) (by refine ⟨?_, ?_, ?_, ⟨by omega, rfl⟩⟩ <;> (first | (simp (maxSteps := 5000000) -dsimp only [gr, Nat.reduceEqDiff, Nat.reduceLT, Nat.reduceAdd, Nat.reduceMod, Nat.reduceBEq, sid_mod, sid_ne1, sid_ne2, sid_inj]; first | done | rfl | (simp; done)) | assumption | rfl)) ?_
  intro k sa ⟨h5a, h6a, h7a, hIa⟩
  obtain ⟨hk, hz⟩ := hIa
  simp (maxSteps := 5000000) -dsimp only [↓gp, gq, reduceCtorEq, Nat.reduceEqDiff, Nat.reduceLT, Nat.reduceLeDiff, Nat.reduceAdd, Nat.reduceMul, Nat.reduceSub, Nat.reduceBEq, Int.reduceToNat, Int.reduceLE, Int.reduceLT, Int.reduceNeg, Nat.reduceMod, sid_ne1, sid_ne2, sid_inj, sid_mod, gT, TK.isInt, TK.agg, Array.toList, h5a, h6a, h7a]
  refine ⟨fun h => ⟨h, h, fun h0 => ?_, fun h0 => ?_⟩, fun h => ?_⟩
  · have hs := nzR_snoc h
    have : nzR r = true := by
      unfold nzR at hs ⊢
      exact List.any_eq_true.2 ⟨_, getD_mem 0 h, h0⟩
    rw [this]; rfl
  · have hs := nzR_snoc h
    rw [h0, hz] at hs
    exact again_of (k + 1) (by refine ⟨?_, ?_, ?_, ⟨by omega, hs⟩⟩ <;> (first | (simp (maxSteps := 5000000) -dsimp only [gr, Nat.reduceEqDiff, Nat.reduceLT, Nat.reduceAdd, Nat.reduceMod, Nat.reduceBEq, sid_mod, sid_ne1, sid_ne2, sid_inj, h5a, h6a, h7a, wrap_nat h hl]; first | done | rfl | (simp; done)) | assumption | rfl)) (by first | omega | (simp only; omega) | (dsimp only; omega) | (show _ < _; simp; omega))
  · rw [List.take_of_length_le (by omega)] at hz
    rw [hz]; rfl
theorem c_impl_lengthOfTable (M : Mat) (hsq : SqB M) : AC Try.prog 67 [int2 M] (.im (int (lenM M M.length))) := by
  refine AC.go (rs := [.tmp 2]) T_ok mixed Try.func67 rfl rfl rfl (by kernel_rfl) fun hl => ?_
  have hl7 := hsq.len
  simp (maxSteps := 5000000) -dsimp only [↓gp, gq, reduceCtorEq, Nat.reduceEqDiff, Nat.reduceLT, Nat.reduceLeDiff, Nat.reduceAdd, Nat.reduceMul, Nat.reduceSub, Nat.reduceBEq, Int.reduceToNat, Int.reduceLE, Int.reduceLT, Int.reduceNeg, Nat.reduceMod, sid_ne1, sid_ne2, sid_inj, sid_mod, gT, TK.isInt, TK.agg, Array.toList]
  refine loop_of (fun (i : Nat) s => s.sl 3 = int (lenM M i) ∧ s.sl 6 = int2 M ∧ s.sl 7 = int M.length ∧ s.sl 8 = int i ∧ (i ≤ M.length)) (fun i => M.length - i) (0) (by refine ⟨?_, ?_, ?_, ?_, by omega⟩ <;> (first | (simp (maxSteps := 5000000) -dsimp only [gr, Nat.reduceEqDiff, Nat.reduceLT, Nat.reduceAdd, Nat.reduceMod, Nat.reduceBEq, sid_mod, sid_ne1, sid_ne2, sid_inj, lenM]; first | done | rfl | (simp; done)) | assumption | rfl)) ?_
  intro i sa ⟨h3a, h6a, h7a, h8a, hIa⟩
  simp (maxSteps := 5000000) -dsimp only [↓gp, gq, reduceCtorEq, Nat.reduceEqDiff, Nat.reduceLT, Nat.reduceLeDiff, Nat.reduceAdd, Nat.reduceMul, Nat.reduceSub, Nat.reduceBEq, Int.reduceToNat, Int.reduceLE, Int.reduceLT, Int.reduceNeg, Nat.reduceMod, sid_ne1, sid_ne2, sid_inj, sid_mod, gT, TK.isInt, TK.agg, Array.toList, h3a, h6a, h7a, h8a]
  refine ⟨fun h => ⟨h, h, askK_of (c_impl_isZeroList _) ?_⟩, fun h => ?_⟩
  · simp (maxSteps := 5000000) -dsimp only [↓gp, gq, reduceCtorEq, Nat.reduceEqDiff, Nat.reduceLT, Nat.reduceLeDiff, Nat.reduceAdd, Nat.reduceMul, Nat.reduceSub, Nat.reduceBEq, Int.reduceToNat, Int.reduceLE, Int.reduceLT, Int.reduceNeg, Nat.reduceMod, sid_ne1, sid_ne2, sid_inj, sid_mod, gT, TK.isInt, TK.agg, Array.toList, h3a, h6a, h7a, h8a]
    refine ⟨fun h0 => ?_, fun h0 => ?_⟩
    · have e : lenM M (i + 1) = i := by rw [lenM, if_pos (by simpa using h0)]
      exact again_of (i + 1) (by refine ⟨?_, ?_, ?_, ?_, by omega⟩ <;> (first | (simp (maxSteps := 5000000) -dsimp only [gr, Nat.reduceEqDiff, Nat.reduceLT, Nat.reduceAdd, Nat.reduceMod, Nat.reduceBEq, sid_mod, sid_ne1, sid_ne2, sid_inj, h3a, h6a, h7a, h8a, wrap_nat h (by omega), e]; first | done | rfl | (simp; done)) | assumption | rfl)) (by first | omega | (simp only; omega) | (dsimp only; omega) | (show _ < _; simp; omega))
    · have e : lenM M (i + 1) = lenM M i := by rw [lenM, if_neg (by simpa using h0)]
      exact again_of (i + 1) (by refine ⟨?_, ?_, ?_, ?_, by omega⟩ <;> (first | (simp (maxSteps := 5000000) -dsimp only [gr, Nat.reduceEqDiff, Nat.reduceLT, Nat.reduceAdd, Nat.reduceMod, Nat.reduceBEq, sid_mod, sid_ne1, sid_ne2, sid_inj, h3a, h6a, h7a, h8a, wrap_nat h (by omega), e]; first | done | rfl | (simp; done)) | assumption | rfl)) (by first | omega | (simp only; omega) | (dsimp only; omega) | (show _ < _; simp; omega))
  · have : i = M.length := by omega
    rw [this]
theorem c_impl_LengthOf (n : Int) (xs : List Int) (p : Int) : AC Try.prog 31 [.ag [int n, ints xs], int p] (.im (int (lenO n xs p))) := by
  refine AC.go (rs := [.tmp 4]) T_ok mixed Try.func31 rfl rfl rfl (by kernel_rfl) fun hl => ?_
  simp (maxSteps := 5000000) -dsimp only [↓gp, gq, reduceCtorEq, Nat.reduceEqDiff, Nat.reduceLT, Nat.reduceLeDiff, Nat.reduceAdd, Nat.reduceMul, Nat.reduceSub, Nat.reduceBEq, Int.reduceToNat, Int.reduceLE, Int.reduceLT, Int.reduceNeg, Nat.reduceMod, sid_ne1, sid_ne2, sid_inj, sid_mod, gT, TK.isInt, TK.agg, Array.toList]
  refine askK_of (c_impl_BettiTableF n xs p) ?_
  have hsq := betR_sq n xs p
  unfold lenO
  generalize betR n xs p = M at *
  simp (maxSteps := 5000000) -dsimp only [↓gp, gq, reduceCtorEq, Nat.reduceEqDiff, Nat.reduceLT, Nat.reduceLeDiff, Nat.reduceAdd, Nat.reduceMul, Nat.reduceSub, Nat.reduceBEq, Int.reduceToNat, Int.reduceLE, Int.reduceLT, Int.reduceNeg, Nat.reduceMod, sid_ne1, sid_ne2, sid_inj, sid_mod, gT, TK.isInt, TK.agg, Array.toList]
  refine askK_of (c_impl_lengthOfTable M hsq) ?_
  simp (maxSteps := 5000000) -dsimp only [↓gp, gq, reduceCtorEq, Nat.reduceEqDiff, Nat.reduceLT, Nat.reduceLeDiff, Nat.reduceAdd, Nat.reduceMul, Nat.reduceSub, Nat.reduceBEq, Int.reduceToNat, Int.reduceLE, Int.reduceLT, Int.reduceNeg, Nat.reduceMod, sid_ne1, sid_ne2, sid_inj, sid_mod, gT, TK.isInt, TK.agg, Array.toList]
theorem c_impl_isLinearTable (M : Mat) (d : Int) (hsq : SqB M) : AC Try.prog 65 [int2 M, int d] (.im (bool (linM M d))) := by
  refine AC.go (rs := [.tmp 4]) T_ok mixed Try.func65 rfl rfl rfl (by kernel_rfl) fun hl => ?_
  have hl7 := hsq.len
  simp (maxSteps := 5000000) -dsimp only [↓gp, gq, reduceCtorEq, Nat.reduceEqDiff, Nat.reduceLT, Nat.reduceLeDiff, Nat.reduceAdd, Nat.reduceMul, Nat.reduceSub, Nat.reduceBEq, Int.reduceToNat, Int.reduceLE, Int.reduceLT, Int.reduceNeg, Nat.reduceMod, sid_ne1, sid_ne2, sid_inj, sid_mod, gT, TK.isInt, TK.agg, Array.toList]
  refine loop_of (fun (i : Nat) s => s.sl 1 = int d ∧ s.sl 9 = int2 M ∧ s.sl 10 = int M.length ∧ s.sl 11 = int i ∧ (i ≤ M.length ∧ ∀ a, 1 ≤ a → a < i → ∀ j, j < M.length → linAt M d a j)) (fun i => M.length - i) (0) (by refine ⟨?_, ?_, ?_, ?_, ⟨by omega, fun a h1 h2 => by omega⟩⟩ <;> (first | (simp (maxSteps := 5000000) -dsimp only [gr, Nat.reduceEqDiff, Nat.reduceLT, Nat.reduceAdd, Nat.reduceMod, Nat.reduceBEq, sid_mod, sid_ne1, sid_ne2, sid_inj]; first | done | rfl | (simp; done)) | assumption | rfl)) ?_
  intro i sa ⟨h1a, h9a, h10a, h11a, hIa⟩
  obtain ⟨hi, hall⟩ := hIa
  simp (maxSteps := 5000000) -dsimp only [↓gp, gq, reduceCtorEq, Nat.reduceEqDiff, Nat.reduceLT, Nat.reduceLeDiff, Nat.reduceAdd, Nat.reduceMul, Nat.reduceSub, Nat.reduceBEq, Int.reduceToNat, Int.reduceLE, Int.reduceLT, Int.reduceNeg, Nat.reduceMod, sid_ne1, sid_ne2, sid_inj, sid_mod, gT, TK.isInt, TK.agg, Array.toList, h1a, h9a, h10a, h11a]
  refine ⟨fun h => ⟨h, h, ?_⟩, fun h => ?_⟩
  · have hr := hsq.row i h
    refine loop_of (fun (j : Nat) s => s.sl 1 = int d ∧ s.sl 5 = int i ∧ s.sl 9 = int2 M ∧ s.sl 10 = int M.length ∧ s.sl 11 = int i ∧ s.sl 16 = .sl false 1 (iL (M.getD i [])) ∧ s.sl 17 = int M.length ∧ s.sl 18 = int j ∧ (j ≤ M.length ∧ (1 ≤ i → ∀ b, b < j → linAt M d i b))) (fun j => M.length - j) (0) (by refine ⟨?_, ?_, ?_, ?_, ?_, ?_, ?_, ?_, ⟨by omega, fun h1 b h2 => by omega⟩⟩ <;> (first | (simp (maxSteps := 5000000) -dsimp only [gr, Nat.reduceEqDiff, Nat.reduceLT, Nat.reduceAdd, Nat.reduceMod, Nat.reduceBEq, sid_mod, sid_ne1, sid_ne2, sid_inj, h1a, h9a, h10a, h11a, hr]; first | done | rfl | (simp; done)) | assumption | rfl)) ?_
    intro j sb ⟨h1b, h5b, h9b, h10b, h11b, h16b, h17b, h18b, hIb⟩
    obtain ⟨hj, hrow⟩ := hIb
    have hw1 : j < M.length → IntKind.i64.wrap ((j : Int) - (i : Int)) = (j : Int) - i := fun h => wrap_id (by omega) (by omega)
    have hw2 : j < M.length → IntKind.i64.wrap ((j : Int) - (i : Int) + 1) = (j : Int) - i + 1 := fun h => wrap_id (by omega) (by omega)
    by_cases h2 : j < M.length
    · simp (maxSteps := 5000000) -dsimp only [↓gp, gq, reduceCtorEq, Nat.reduceEqDiff, Nat.reduceLT, Nat.reduceLeDiff, Nat.reduceAdd, Nat.reduceMul, Nat.reduceSub, Nat.reduceBEq, Int.reduceToNat, Int.reduceLE, Int.reduceLT, Int.reduceNeg, Nat.reduceMod, sid_ne1, sid_ne2, sid_inj, sid_mod, gT, TK.isInt, TK.agg, Array.toList, h1b, h5b, h9b, h10b, h11b, h16b, h17b, h18b, hr, hw1 h2, hw2 h2]
      have go : (1 ≤ i → linAt M d i j) → 1 ≤ i → ∀ b, b < j + 1 → linAt M d i b := fun h0 h1 b hb => by
        rcases Nat.lt_succ_iff_lt_or_eq.1 hb with hb | rfl
        · exact hrow h1 b hb
        · exact h0 h1
      refine ⟨fun _ => ⟨h2, h2, fun h3 => ⟨fun h4 => ⟨fun h5 => linM_no fun hg => ?_, fun h5 => ?_⟩, fun h4 => ?_⟩, fun h3 => ?_⟩, fun h => absurd h2 h⟩
      · rcases hg i (by omega) h j h2 with e | e
        · rw [e] at h4; simp at h4
        · rw [e] at h5; simp at h5
      · have hc := go fun _ => .inr (by simpa using h5)
        exact again_of (j + 1) (by refine ⟨?_, ?_, ?_, ?_, ?_, ?_, ?_, ?_, ⟨by omega, hc⟩⟩ <;> (first | (simp (maxSteps := 5000000) -dsimp only [gr, Nat.reduceEqDiff, Nat.reduceLT, Nat.reduceAdd, Nat.reduceMod, Nat.reduceBEq, sid_mod, sid_ne1, sid_ne2, sid_inj, h1b, h5b, h9b, h10b, h11b, h16b, h17b, h18b, wrap_nat h2 (by omega)]; first | done | rfl | (simp; done)) | assumption | rfl)) (by first | omega | (simp only; omega) | (dsimp only; omega) | (show _ < _; simp; omega))
      · have hc := go fun _ => .inl (by simpa using h4)
        exact again_of (j + 1) (by refine ⟨?_, ?_, ?_, ?_, ?_, ?_, ?_, ?_, ⟨by omega, hc⟩⟩ <;> (first | (simp (maxSteps := 5000000) -dsimp only [gr, Nat.reduceEqDiff, Nat.reduceLT, Nat.reduceAdd, Nat.reduceMod, Nat.reduceBEq, sid_mod, sid_ne1, sid_ne2, sid_inj, h1b, h5b, h9b, h10b, h11b, h16b, h17b, h18b, wrap_nat h2 (by omega)]; first | done | rfl | (simp; done)) | assumption | rfl)) (by first | omega | (simp only; omega) | (dsimp only; omega) | (show _ < _; simp; omega))
      · have hc := go fun _ => by omega
        exact again_of (j + 1) (by refine ⟨?_, ?_, ?_, ?_, ?_, ?_, ?_, ?_, ⟨by omega, hc⟩⟩ <;> (first | (simp (maxSteps := 5000000) -dsimp only [gr, Nat.reduceEqDiff, Nat.reduceLT, Nat.reduceAdd, Nat.reduceMod, Nat.reduceBEq, sid_mod, sid_ne1, sid_ne2, sid_inj, h1b, h5b, h9b, h10b, h11b, h16b, h17b, h18b, wrap_nat h2 (by omega)]; first | done | rfl | (simp; done)) | assumption | rfl)) (by first | omega | (simp only; omega) | (dsimp only; omega) | (show _ < _; simp; omega))
    · simp (maxSteps := 5000000) -dsimp only [↓gp, gq, reduceCtorEq, Nat.reduceEqDiff, Nat.reduceLT, Nat.reduceLeDiff, Nat.reduceAdd, Nat.reduceMul, Nat.reduceSub, Nat.reduceBEq, Int.reduceToNat, Int.reduceLE, Int.reduceLT, Int.reduceNeg, Nat.reduceMod, sid_ne1, sid_ne2, sid_inj, sid_mod, gT, TK.isInt, TK.agg, Array.toList, h1b, h5b, h9b, h10b, h11b, h16b, h17b, h18b, hr]
      refine ⟨fun h => absurd h h2, fun _ => ?_⟩
      exact again_of (i + 1) (by refine ⟨?_, ?_, ?_, ?_, ⟨by omega, fun a h1 h3 b hb => by
        by_cases e : a = i
        · subst e; exact hrow h1 b (by omega)
        · exact hall a h1 (by omega) b hb⟩⟩ <;> (first | (simp (maxSteps := 5000000) -dsimp only [gr, Nat.reduceEqDiff, Nat.reduceLT, Nat.reduceAdd, Nat.reduceMod, Nat.reduceBEq, sid_mod, sid_ne1, sid_ne2, sid_inj, h1a, h9a, h10a, h11a, h1b, h5b, h9b, h10b, h11b, h16b, h17b, h18b, wrap_nat h (by omega)]; first | done | rfl | (simp; done)) | assumption | rfl)) (by first | omega | (simp only; omega) | (dsimp only; omega) | (show _ < _; simp; omega))
  · rw [linM_yes (fun a h1 h2 => hall a h1 (by omega))]
noncomputable def linO (n : Int) (xs : List Int) (p d : Int) : Bool := decide (0 < (betR n xs p).length) && linM (betR n xs p) d
theorem c_impl_HasLinear (n : Int) (xs : List Int) (p d : Int) : AC Try.prog 27 [.ag [int n, ints xs], int p, int d] (.im (bool (linO n xs p d))) := by
  refine AC.go (rs := [.tmp 6]) T_ok mixed Try.func27 rfl rfl rfl (by kernel_rfl) fun hl => ?_
  simp (maxSteps := 5000000) -dsimp only [↓gp, gq, reduceCtorEq, Nat.reduceEqDiff, Nat.reduceLT, Nat.reduceLeDiff, Nat.reduceAdd, Nat.reduceMul, Nat.reduceSub, Nat.reduceBEq, Int.reduceToNat, Int.reduceLE, Int.reduceLT, Int.reduceNeg, Nat.reduceMod, sid_ne1, sid_ne2, sid_inj, sid_mod, gT, TK.isInt, TK.agg, Array.toList]
  refine askK_of (c_impl_BettiTableF n xs p) ?_
  have hsq := betR_sq n xs p
  unfold linO
  generalize betR n xs p = M at *
  have hl7 := hsq.len
  simp (maxSteps := 5000000) -dsimp only [↓gp, gq, reduceCtorEq, Nat.reduceEqDiff, Nat.reduceLT, Nat.reduceLeDiff, Nat.reduceAdd, Nat.reduceMul, Nat.reduceSub, Nat.reduceBEq, Int.reduceToNat, Int.reduceLE, Int.reduceLT, Int.reduceNeg, Nat.reduceMod, sid_ne1, sid_ne2, sid_inj, sid_mod, gT, TK.isInt, TK.agg, Array.toList]
  refine ⟨fun h => askK_of (c_impl_isLinearTable M d hsq) ?_, fun h => ?_⟩
  · simp (maxSteps := 5000000) -dsimp only [↓gp, gq, reduceCtorEq, Nat.reduceEqDiff, Nat.reduceLT, Nat.reduceLeDiff, Nat.reduceAdd, Nat.reduceMul, Nat.reduceSub, Nat.reduceBEq, Int.reduceToNat, Int.reduceLE, Int.reduceLT, Int.reduceNeg, Nat.reduceMod, sid_ne1, sid_ne2, sid_inj, sid_mod, gT, TK.isInt, TK.agg, Array.toList]
    have h : 0 < M.length := by omega
    simp [h]
  · have : M.length = 0 := by omega
    simp [this]
theorem c_spec_HasLinear (n : Int) (xs : List Int) (p d : Int) : AC Try.prog 26 [.ag [int n, ints xs], int p, int d] (.im (bool (linO n xs p d))) := by
  refine AC.go (rs := [.tmp 6]) T_ok mixed Try.func26 rfl rfl rfl (by kernel_rfl) fun hl => ?_
  simp (maxSteps := 5000000) -dsimp only [↓gp, gq, reduceCtorEq, Nat.reduceEqDiff, Nat.reduceLT, Nat.reduceLeDiff, Nat.reduceAdd, Nat.reduceMul, Nat.reduceSub, Nat.reduceBEq, Int.reduceToNat, Int.reduceLE, Int.reduceLT, Int.reduceNeg, Nat.reduceMod, sid_ne1, sid_ne2, sid_inj, sid_mod, gT, TK.isInt, TK.agg, Array.toList]
  refine askK_of (c_spec_BettiTableF n xs p) ?_
  have hsq := betR_sq n xs p
  unfold linO
  generalize betR n xs p = M at *
  have hl7 := hsq.len
  simp (maxSteps := 5000000) -dsimp only [↓gp, gq, reduceCtorEq, Nat.reduceEqDiff, Nat.reduceLT, Nat.reduceLeDiff, Nat.reduceAdd, Nat.reduceMul, Nat.reduceSub, Nat.reduceBEq, Int.reduceToNat, Int.reduceLE, Int.reduceLT, Int.reduceNeg, Nat.reduceMod, sid_ne1, sid_ne2, sid_inj, sid_mod, gT, TK.isInt, TK.agg, Array.toList]
  refine loop_of (fun (i : Nat) s => s.sl 2 = int d ∧ s.sl 7 = .own 12 1 ∧ s.rw 12 = ⟨1, .sli 22 1 false (iLL M)⟩ ∧ s.sl 8 = int i ∧ (1 ≤ i ∧ (i ≤ M.length ∨ M.length = 0) ∧ ∀ a, 1 ≤ a → a < i → ∀ j, j < M.length → linAt M d a j)) (fun i => M.length - i) (1) (by refine ⟨?_, ?_, ?_, ?_, ⟨by omega, by omega, fun a h1 h2 => by omega⟩⟩ <;> (first | (simp (maxSteps := 5000000) -dsimp only [gr, Nat.reduceEqDiff, Nat.reduceLT, Nat.reduceAdd, Nat.reduceMod, Nat.reduceBEq, sid_mod, sid_ne1, sid_ne2, sid_inj]; first | done | rfl | (simp; done)) | assumption | rfl)) ?_
  intro i sa ⟨h2a, h7a, r12a, h8a, hIa⟩
  obtain ⟨hi, hi2, hall⟩ := hIa
  simp (maxSteps := 5000000) -dsimp only [↓gp, gq, reduceCtorEq, Nat.reduceEqDiff, Nat.reduceLT, Nat.reduceLeDiff, Nat.reduceAdd, Nat.reduceMul, Nat.reduceSub, Nat.reduceBEq, Int.reduceToNat, Int.reduceLE, Int.reduceLT, Int.reduceNeg, Nat.reduceMod, sid_ne1, sid_ne2, sid_inj, sid_mod, gT, TK.isInt, TK.agg, Array.toList, h2a, h7a, r12a, h8a]
  refine ⟨fun h => ?_, fun h => ?_⟩
  · have hr := hsq.row i h
    refine loop_of (fun (j : Nat) s => s.sl 2 = int d ∧ s.sl 7 = .own 12 1 ∧ s.rw 12 = ⟨1, .sli 22 1 false (iLL M)⟩ ∧ s.sl 8 = int i ∧ s.sl 9 = int j ∧ (j ≤ M.length ∧ (1 ≤ i → ∀ b, b < j → linAt M d i b))) (fun j => M.length - j) (0) (by refine ⟨?_, ?_, ?_, ?_, ?_, ⟨by omega, fun h1 b h2 => by omega⟩⟩ <;> (first | (simp (maxSteps := 5000000) -dsimp only [gr, Nat.reduceEqDiff, Nat.reduceLT, Nat.reduceAdd, Nat.reduceMod, Nat.reduceBEq, sid_mod, sid_ne1, sid_ne2, sid_inj, h2a, h7a, r12a, h8a]; first | done | rfl | (simp; done)) | assumption | rfl)) ?_
    intro j sb ⟨h2b, h7b, r12b, h8b, h9b, hIb⟩
    obtain ⟨hj, hrow⟩ := hIb
    have hw1 : j < M.length → IntKind.i64.wrap ((j : Int) - (i : Int)) = (j : Int) - i := fun h => wrap_id (by omega) (by omega)
    have hw2 : j < M.length → IntKind.i64.wrap ((j : Int) - (i : Int) + 1) = (j : Int) - i + 1 := fun h => wrap_id (by omega) (by omega)
    by_cases h2 : j < M.length
    · have hM : decide (M.length > 0) = true := decide_eq_true (by omega)
      simp (maxSteps := 5000000) -dsimp only [↓gp, gq, reduceCtorEq, Nat.reduceEqDiff, Nat.reduceLT, Nat.reduceLeDiff, Nat.reduceAdd, Nat.reduceMul, Nat.reduceSub, Nat.reduceBEq, Int.reduceToNat, Int.reduceLE, Int.reduceLT, Int.reduceNeg, Nat.reduceMod, sid_ne1, sid_ne2, sid_inj, sid_mod, gT, TK.isInt, TK.agg, Array.toList, h2b, h7b, r12b, h8b, h9b, hr, hw1 h2, hw2 h2]
      have go : (1 ≤ i → linAt M d i j) → 1 ≤ i → ∀ b, b < j + 1 → linAt M d i b := fun h0 h1 b hb => by
        rcases Nat.lt_succ_iff_lt_or_eq.1 hb with hb | rfl
        · exact hrow h1 b hb
        · exact h0 h1
      refine ⟨fun _ => ⟨h, h, h2, h2, fun h4 => ⟨fun h5 => ?_, fun h5 => ?_⟩, fun h4 => ?_⟩, fun h => absurd h2 h⟩
      · have : linM M d = false := linM_no fun hg => by
          rcases hg i (by omega) h j h2 with e | e
          · rw [e] at h4; simp at h4
          · rw [e] at h5; simp at h5
        rw [this]; simp
      · have hc := go fun _ => .inr (by simpa using h5)
        exact again_of (j + 1) (by refine ⟨?_, ?_, ?_, ?_, ?_, ⟨by omega, hc⟩⟩ <;> (first | (simp (maxSteps := 5000000) -dsimp only [gr, Nat.reduceEqDiff, Nat.reduceLT, Nat.reduceAdd, Nat.reduceMod, Nat.reduceBEq, sid_mod, sid_ne1, sid_ne2, sid_inj, h2b, h7b, r12b, h8b, h9b, wrap_nat h2 (by omega)]; first | done | rfl | (simp; done)) | assumption | rfl)) (by first | omega | (simp only; omega) | (dsimp only; omega) | (show _ < _; simp; omega))
      · have hc := go fun _ => .inl (by simpa using h4)
        exact again_of (j + 1) (by refine ⟨?_, ?_, ?_, ?_, ?_, ⟨by omega, hc⟩⟩ <;> (first | (simp (maxSteps := 5000000) -dsimp only [gr, Nat.reduceEqDiff, Nat.reduceLT, Nat.reduceAdd, Nat.reduceMod, Nat.reduceBEq, sid_mod, sid_ne1, sid_ne2, sid_inj, h2b, h7b, r12b, h8b, h9b, wrap_nat h2 (by omega)]; first | done | rfl | (simp; done)) | assumption | rfl)) (by first | omega | (simp only; omega) | (dsimp only; omega) | (show _ < _; simp; omega))
    · simp (maxSteps := 5000000) -dsimp only [↓gp, gq, reduceCtorEq, Nat.reduceEqDiff, Nat.reduceLT, Nat.reduceLeDiff, Nat.reduceAdd, Nat.reduceMul, Nat.reduceSub, Nat.reduceBEq, Int.reduceToNat, Int.reduceLE, Int.reduceLT, Int.reduceNeg, Nat.reduceMod, sid_ne1, sid_ne2, sid_inj, sid_mod, gT, TK.isInt, TK.agg, Array.toList, h2b, h7b, r12b, h8b, h9b, hr]
      refine ⟨fun h => absurd h h2, fun _ => ?_⟩
      exact again_of (i + 1) (by refine ⟨?_, ?_, ?_, ?_, ⟨by omega, by omega, fun a h1 h3 b hb => by
        by_cases e : a = i
        · subst e; exact hrow h1 b (by omega)
        · exact hall a h1 (by omega) b hb⟩⟩ <;> (first | (simp (maxSteps := 5000000) -dsimp only [gr, Nat.reduceEqDiff, Nat.reduceLT, Nat.reduceAdd, Nat.reduceMod, Nat.reduceBEq, sid_mod, sid_ne1, sid_ne2, sid_inj, h2a, h7a, r12a, h8a, h2b, h7b, r12b, h8b, h9b, wrap_nat h (by omega)]; first | done | rfl | (simp; done)) | assumption | rfl)) (by first | omega | (simp only; omega) | (dsimp only; omega) | (show _ < _; simp; omega))
  · have : linM M d = true := linM_yes fun a h1 h2 => hall a h1 (by omega)
    rw [this]
    simp
end Go.Proofs.Ytlapkhmehcnjeaa

namespace Go.Proofs.Ytlapkhmehcnjeaa
open Go.Abs
set_option linter.unusedSimpArgs false
set_option linter.unusedVariables false

noncomputable def rowO (n : Int) (xs : List Int) (p : Int) : List Int := rowSums (betR n xs p) (lenO n xs p + 1).toNat
noncomputable def sgnO (n : Int) (xs : List Int) (p : Int) : List Int := colSums (betR n xs p) (betR n xs p).length (betR n xs p).length
theorem rowSums_length (M : Mat) (i : Nat) : (rowSums M i).length = i := by simp [rowSums]
theorem sumR_wrap {M : Mat} (hsq : SqB M) (i : Nat) {j : Nat} (hj : j < M.length) : IntKind.i64.wrap (sumR (M.getD i []) j + (M.getD i []).getD j 0) = sumR (M.getD i []) (j + 1) := by
  have h1 := sumR_small (fun j => hsq.small i j) j
  have h2 := hsq.small i j
  have h3 := hsq.len
  rw [wrap_id (by omega) (by omega)]; rfl
theorem c_spec_RowSums (n : Int) (xs : List Int) (p : Int) : AC Try.prog 43 [.ag [int n, ints xs], int p] (.fr 3 1 (iL (rowO n xs p))) := by
  refine AC.go (rs := [.tmp 4]) T_ok mixed Try.func43 rfl rfl rfl (by kernel_rfl) fun hl => ?_
  simp (maxSteps := 5000000) -dsimp only [↓gp, gq, reduceCtorEq, Nat.reduceEqDiff, Nat.reduceLT, Nat.reduceLeDiff, Nat.reduceAdd, Nat.reduceMul, Nat.reduceSub, Nat.reduceBEq, Int.reduceToNat, Int.reduceLE, Int.reduceLT, Int.reduceNeg, Nat.reduceMod, sid_ne1, sid_ne2, sid_inj, sid_mod, gT, TK.isInt, TK.agg, Array.toList]
  refine askK_of (c_spec_BettiTableF n xs p) ?_
  simp (maxSteps := 5000000) -dsimp only [↓gp, gq, reduceCtorEq, Nat.reduceEqDiff, Nat.reduceLT, Nat.reduceLeDiff, Nat.reduceAdd, Nat.reduceMul, Nat.reduceSub, Nat.reduceBEq, Int.reduceToNat, Int.reduceLE, Int.reduceLT, Int.reduceNeg, Nat.reduceMod, sid_ne1, sid_ne2, sid_inj, sid_mod, gT, TK.isInt, TK.agg, Array.toList]
  refine askK_of (c_spec_LengthOf n xs p) ?_
  have hsq := betR_sq n xs p
  unfold rowO lenO
  generalize betR n xs p = M at *
  have hl7 := hsq.len
  have hlm := lenM_lt M M.length
  generalize lenM M M.length = last at *
  simp (maxSteps := 5000000) -dsimp only [↓gp, gq, reduceCtorEq, Nat.reduceEqDiff, Nat.reduceLT, Nat.reduceLeDiff, Nat.reduceAdd, Nat.reduceMul, Nat.reduceSub, Nat.reduceBEq, Int.reduceToNat, Int.reduceLE, Int.reduceLT, Int.reduceNeg, Nat.reduceMod, sid_ne1, sid_ne2, sid_inj, sid_mod, gT, TK.isInt, TK.agg, Array.toList]
  refine loop_of (fun (za : Nat × Nat) s => match za with | (i, v) => s.sl 5 = .own 11 v ∧ s.rw 11 = ⟨v, .sli 3 1 false (iL (rowSums M i))⟩ ∧ s.sl 6 = .own 14 1 ∧ s.rw 14 = ⟨1, .sli 22 1 false (iLL M)⟩ ∧ s.sl 7 = int last ∧ s.sl 8 = int i ∧ ((i : Int) ≤ last + 1)) (fun (i, v) => (last + 1 - i).toNat) ((0, 1)) (by refine ⟨?_, ?_, ?_, ?_, ?_, ?_, by omega⟩ <;> (first | (simp (maxSteps := 5000000) -dsimp only [gr, Nat.reduceEqDiff, Nat.reduceLT, Nat.reduceAdd, Nat.reduceMod, Nat.reduceBEq, sid_mod, sid_ne1, sid_ne2, sid_inj]; first | done | rfl | (simp; done)) | assumption | rfl)) ?_
  intro (i, v) sa ⟨h5a, r11a, h6a, r14a, h7a, h8a, hIa⟩
  have hrl := rowSums_length M i
  simp (maxSteps := 5000000) -dsimp only [↓gp, gq, reduceCtorEq, Nat.reduceEqDiff, Nat.reduceLT, Nat.reduceLeDiff, Nat.reduceAdd, Nat.reduceMul, Nat.reduceSub, Nat.reduceBEq, Int.reduceToNat, Int.reduceLE, Int.reduceLT, Int.reduceNeg, Nat.reduceMod, sid_ne1, sid_ne2, sid_inj, sid_mod, gT, TK.isInt, TK.agg, Array.toList, h5a, r11a, h6a, r14a, h7a, h8a]
  refine ⟨fun h => ?_, fun h => ?_⟩
  · have hi : i < M.length := by omega
    have hr := hsq.row i hi
    refine loop_of (fun (j : Nat) s => s.sl 5 = .own 11 v ∧ s.rw 11 = ⟨v, .sli 3 1 false (iL (rowSums M i))⟩ ∧ s.sl 6 = .own 14 1 ∧ s.rw 14 = ⟨1, .sli 22 1 false (iLL M)⟩ ∧ s.sl 7 = int last ∧ s.sl 8 = int i ∧ s.sl 9 = int (sumR (M.getD i []) j) ∧ s.sl 10 = int j ∧ (j ≤ M.length)) (fun j => M.length - j) (0) (by refine ⟨?_, ?_, ?_, ?_, ?_, ?_, ?_, ?_, by omega⟩ <;> (first | (simp (maxSteps := 5000000) -dsimp only [gr, Nat.reduceEqDiff, Nat.reduceLT, Nat.reduceAdd, Nat.reduceMod, Nat.reduceBEq, sid_mod, sid_ne1, sid_ne2, sid_inj, h5a, r11a, h6a, r14a, h7a, h8a, sumR]; first | done | rfl | (simp; done)) | assumption | rfl)) ?_
    intro j sb ⟨h5b, r11b, h6b, r14b, h7b, h8b, h9b, h10b, hIb⟩
    simp (maxSteps := 5000000) -dsimp only [↓gp, gq, reduceCtorEq, Nat.reduceEqDiff, Nat.reduceLT, Nat.reduceLeDiff, Nat.reduceAdd, Nat.reduceMul, Nat.reduceSub, Nat.reduceBEq, Int.reduceToNat, Int.reduceLE, Int.reduceLT, Int.reduceNeg, Nat.reduceMod, sid_ne1, sid_ne2, sid_inj, sid_mod, gT, TK.isInt, TK.agg, Array.toList, h5b, r11b, h6b, r14b, h7b, h8b, h9b, h10b, hr]
    refine ⟨fun h2 => ?_, fun h2 => ?_⟩
    · have hw := sumR_wrap hsq i h2
      simp (maxSteps := 5000000) -dsimp only [↓gp, gq, reduceCtorEq, Nat.reduceEqDiff, Nat.reduceLT, Nat.reduceLeDiff, Nat.reduceAdd, Nat.reduceMul, Nat.reduceSub, Nat.reduceBEq, Int.reduceToNat, Int.reduceLE, Int.reduceLT, Int.reduceNeg, Nat.reduceMod, sid_ne1, sid_ne2, sid_inj, sid_mod, gT, TK.isInt, TK.agg, Array.toList, h5b, r11b, h6b, r14b, h7b, h8b, h9b, h10b, hr, hw]
      refine ⟨hi, hi, h2, h2, again_of (j + 1) (by refine ⟨?_, ?_, ?_, ?_, ?_, ?_, ?_, ?_, by omega⟩ <;> (first | (simp (maxSteps := 5000000) -dsimp only [gr, Nat.reduceEqDiff, Nat.reduceLT, Nat.reduceAdd, Nat.reduceMod, Nat.reduceBEq, sid_mod, sid_ne1, sid_ne2, sid_inj, h5b, r11b, h6b, r14b, h7b, h8b, h9b, h10b, wrap_nat h2 (by omega), hw]; first | done | rfl | (simp; done)) | assumption | rfl)) (by first | omega | (simp only; omega) | (dsimp only; omega) | (show _ < _; simp; omega))⟩
    · have : j = M.length := by omega
      subst this
      have e := rowSums_snoc M i
      refine ⟨by omega, again_of ((i + 1, v + 1)) (by refine ⟨?_, ?_, ?_, ?_, ?_, ?_, by dsimp only; omega⟩ <;> (first | (simp (maxSteps := 5000000) -dsimp only [gr, Nat.reduceEqDiff, Nat.reduceLT, Nat.reduceAdd, Nat.reduceMod, Nat.reduceBEq, sid_mod, sid_ne1, sid_ne2, sid_inj, h5a, r11a, h6a, r14a, h7a, h8a, h5b, r11b, h6b, r14b, h7b, h8b, h9b, h10b, wrap_nat hi (by omega), e]; first | done | rfl | (simp; done)) | assumption | rfl)) (by first | omega | (simp only; omega) | (dsimp only; omega) | (show _ < _; simp; omega))⟩
  · have : (last + 1).toNat = i := by omega
    rw [this]
theorem c_impl_RowSums (n : Int) (xs : List Int) (p : Int) : AC Try.prog 44 [.ag [int n, ints xs], int p] (.fr 3 1 (iL (rowO n xs p))) := by
  refine AC.go (rs := [.tmp 4]) T_ok mixed Try.func44 rfl rfl rfl (by kernel_rfl) fun hl => ?_
  simp (maxSteps := 5000000) -dsimp only [↓gp, gq, reduceCtorEq, Nat.reduceEqDiff, Nat.reduceLT, Nat.reduceLeDiff, Nat.reduceAdd, Nat.reduceMul, Nat.reduceSub, Nat.reduceBEq, Int.reduceToNat, Int.reduceLE, Int.reduceLT, Int.reduceNeg, Nat.reduceMod, sid_ne1, sid_ne2, sid_inj, sid_mod, gT, TK.isInt, TK.agg, Array.toList]
  refine askK_of (c_impl_BettiTableF n xs p) ?_
  have hsq := betR_sq n xs p
  unfold rowO lenO
  generalize betR n xs p = M at *
  have hl7 := hsq.len
  have hlm := lenM_lt M M.length
  simp (maxSteps := 5000000) -dsimp only [↓gp, gq, reduceCtorEq, Nat.reduceEqDiff, Nat.reduceLT, Nat.reduceLeDiff, Nat.reduceAdd, Nat.reduceMul, Nat.reduceSub, Nat.reduceBEq, Int.reduceToNat, Int.reduceLE, Int.reduceLT, Int.reduceNeg, Nat.reduceMod, sid_ne1, sid_ne2, sid_inj, sid_mod, gT, TK.isInt, TK.agg, Array.toList]
  refine loop_of (fun (za : Nat × Nat) s => match za with | (i, v) => s.sl 5 = .own 13 1 ∧ s.rw 13 = ⟨1, .sli 22 1 false (iLL M)⟩ ∧ s.sl 6 = .own 6 v ∧ s.rw 6 = ⟨v, .sli 3 1 false (iL (rowSums M i))⟩ ∧ s.sl 7 = int i ∧ ((i : Int) ≤ lenM M M.length + 1)) (fun (i, v) => (lenM M M.length + 1 - i).toNat) ((0, 1)) (by refine ⟨?_, ?_, ?_, ?_, ?_, by omega⟩ <;> (first | (simp (maxSteps := 5000000) -dsimp only [gr, Nat.reduceEqDiff, Nat.reduceLT, Nat.reduceAdd, Nat.reduceMod, Nat.reduceBEq, sid_mod, sid_ne1, sid_ne2, sid_inj]; first | done | rfl | (simp; done)) | assumption | rfl)) ?_
  intro (i, v) sa ⟨h5a, r13a, h6a, r6a, h7a, hIa⟩
  have hrl := rowSums_length M i
  simp (maxSteps := 5000000) -dsimp only [↓gp, gq, reduceCtorEq, Nat.reduceEqDiff, Nat.reduceLT, Nat.reduceLeDiff, Nat.reduceAdd, Nat.reduceMul, Nat.reduceSub, Nat.reduceBEq, Int.reduceToNat, Int.reduceLE, Int.reduceLT, Int.reduceNeg, Nat.reduceMod, sid_ne1, sid_ne2, sid_inj, sid_mod, gT, TK.isInt, TK.agg, Array.toList, h5a, r13a, h6a, r6a, h7a]
  refine askK_of (c_impl_lengthOfTable M hsq) ?_
  generalize hlast : lenM M M.length = last at *
  simp (maxSteps := 5000000) -dsimp only [↓gp, gq, reduceCtorEq, Nat.reduceEqDiff, Nat.reduceLT, Nat.reduceLeDiff, Nat.reduceAdd, Nat.reduceMul, Nat.reduceSub, Nat.reduceBEq, Int.reduceToNat, Int.reduceLE, Int.reduceLT, Int.reduceNeg, Nat.reduceMod, sid_ne1, sid_ne2, sid_inj, sid_mod, gT, TK.isInt, TK.agg, Array.toList, h5a, r13a, h6a, r6a, h7a]
  refine ⟨fun h => ?_, fun h => ?_⟩
  · have hi : i < M.length := by omega
    have hr := hsq.row i hi
    refine ⟨hi, hi, ?_⟩
    refine loop_of (fun (j : Nat) s => s.sl 5 = .own 13 1 ∧ s.rw 13 = ⟨1, .sli 22 1 false (iLL M)⟩ ∧ s.sl 6 = .own 6 v ∧ s.rw 6 = ⟨v, .sli 3 1 false (iL (rowSums M i))⟩ ∧ s.sl 7 = int i ∧ s.sl 8 = int (sumR (M.getD i []) j) ∧ s.sl 23 = .sl true 1 (iL (M.getD i [])) ∧ s.sl 24 = int M.length ∧ s.sl 25 = int j ∧ (j ≤ M.length)) (fun j => M.length - j) (0) (by refine ⟨?_, ?_, ?_, ?_, ?_, ?_, ?_, ?_, ?_, by omega⟩ <;> (first | (simp (maxSteps := 5000000) -dsimp only [gr, Nat.reduceEqDiff, Nat.reduceLT, Nat.reduceAdd, Nat.reduceMod, Nat.reduceBEq, sid_mod, sid_ne1, sid_ne2, sid_inj, h5a, r13a, h6a, r6a, h7a, hr, sumR]; first | done | rfl | (simp; done)) | assumption | rfl)) ?_
    intro j sb ⟨h5b, r13b, h6b, r6b, h7b, h8b, h23b, h24b, h25b, hIb⟩
    simp (maxSteps := 5000000) -dsimp only [↓gp, gq, reduceCtorEq, Nat.reduceEqDiff, Nat.reduceLT, Nat.reduceLeDiff, Nat.reduceAdd, Nat.reduceMul, Nat.reduceSub, Nat.reduceBEq, Int.reduceToNat, Int.reduceLE, Int.reduceLT, Int.reduceNeg, Nat.reduceMod, sid_ne1, sid_ne2, sid_inj, sid_mod, gT, TK.isInt, TK.agg, Array.toList, h5b, r13b, h6b, r6b, h7b, h8b, h23b, h24b, h25b, hr]
    refine ⟨fun h2 => ?_, fun h2 => ?_⟩
    · have hw := sumR_wrap hsq i h2
      simp (maxSteps := 5000000) -dsimp only [↓gp, gq, reduceCtorEq, Nat.reduceEqDiff, Nat.reduceLT, Nat.reduceLeDiff, Nat.reduceAdd, Nat.reduceMul, Nat.reduceSub, Nat.reduceBEq, Int.reduceToNat, Int.reduceLE, Int.reduceLT, Int.reduceNeg, Nat.reduceMod, sid_ne1, sid_ne2, sid_inj, sid_mod, gT, TK.isInt, TK.agg, Array.toList, h5b, r13b, h6b, r6b, h7b, h8b, h23b, h24b, h25b, hr, hw]
      refine ⟨h2, h2, again_of (j + 1) (by refine ⟨?_, ?_, ?_, ?_, ?_, ?_, ?_, ?_, ?_, by omega⟩ <;> (first | (simp (maxSteps := 5000000) -dsimp only [gr, Nat.reduceEqDiff, Nat.reduceLT, Nat.reduceAdd, Nat.reduceMod, Nat.reduceBEq, sid_mod, sid_ne1, sid_ne2, sid_inj, h5b, r13b, h6b, r6b, h7b, h8b, h23b, h24b, h25b, wrap_nat h2 (by omega), hw]; first | done | rfl | (simp; done)) | assumption | rfl)) (by first | omega | (simp only; omega) | (dsimp only; omega) | (show _ < _; simp; omega))⟩
    · have : j = M.length := by omega
      subst this
      have e := rowSums_snoc M i
      refine ⟨by omega, again_of ((i + 1, v + 1)) (by refine ⟨?_, ?_, ?_, ?_, ?_, by dsimp only; omega⟩ <;> (first | (simp (maxSteps := 5000000) -dsimp only [gr, Nat.reduceEqDiff, Nat.reduceLT, Nat.reduceAdd, Nat.reduceMod, Nat.reduceBEq, sid_mod, sid_ne1, sid_ne2, sid_inj, h5a, r13a, h6a, r6a, h7a, h5b, r13b, h6b, r6b, h7b, h8b, h23b, h24b, h25b, wrap_nat hi (by omega), e]; first | done | rfl | (simp; done)) | assumption | rfl)) (by first | omega | (simp only; omega) | (dsimp only; omega) | (show _ < _; simp; omega))⟩
  · have : (last + 1).toNat = i := by omega
    rw [this]
end Go.Proofs.Ytlapkhmehcnjeaa

namespace Go.Proofs.Ytlapkhmehcnjeaa
open Go.Abs
set_option linter.unusedSimpArgs false
set_option linter.unusedVariables false

theorem colS_wrap {M : Mat} (hsq : SqB M) {i j : Nat} (hi : i < M.length) : IntKind.i64.wrap (colS M j i + sgI i ((M.getD i []).getD j 0)) = colS M j (i + 1) := by
  have h1 := colS_small hsq j i
  have h2 := hsq.small i j
  have h3 := hsq.len
  have : -100000 ≤ sgI i ((M.getD i []).getD j 0) ∧ sgI i ((M.getD i []).getD j 0) ≤ 100000 := by unfold sgI; split <;> omega
  rw [wrap_id (by omega) (by omega)]; rfl
theorem c_spec_SignedSums (n : Int) (xs : List Int) (p : Int) : AC Try.prog 32 [.ag [int n, ints xs], int p] (.fr 3 1 (iL (sgnO n xs p))) := by
  refine AC.go (rs := [.tmp 4]) T_ok mixed Try.func32 rfl rfl rfl (by kernel_rfl) fun hl => ?_
  simp (maxSteps := 5000000) -dsimp only [↓gp, gq, reduceCtorEq, Nat.reduceEqDiff, Nat.reduceLT, Nat.reduceLeDiff, Nat.reduceAdd, Nat.reduceMul, Nat.reduceSub, Nat.reduceBEq, Int.reduceToNat, Int.reduceLE, Int.reduceLT, Int.reduceNeg, Nat.reduceMod, sid_ne1, sid_ne2, sid_inj, sid_mod, gT, TK.isInt, TK.agg, Array.toList]
  refine askK_of (c_spec_BettiTableF n xs p) ?_
  have hsq := betR_sq n xs p
  unfold sgnO
  generalize betR n xs p = M at *
  have hl7 := hsq.len
  simp (maxSteps := 5000000) -dsimp only [↓gp, gq, reduceCtorEq, Nat.reduceEqDiff, Nat.reduceLT, Nat.reduceLeDiff, Nat.reduceAdd, Nat.reduceMul, Nat.reduceSub, Nat.reduceBEq, Int.reduceToNat, Int.reduceLE, Int.reduceLT, Int.reduceNeg, Nat.reduceMod, sid_ne1, sid_ne2, sid_inj, sid_mod, gT, TK.isInt, TK.agg, Array.toList]
  refine loop_of (fun (za : Nat × Nat) s => match za with | (j, v) => s.sl 5 = .own 10 v ∧ s.rw 10 = ⟨v, .sli 3 1 false (iL (colSums M M.length j))⟩ ∧ s.sl 6 = .own 13 1 ∧ s.rw 13 = ⟨1, .sli 22 1 false (iLL M)⟩ ∧ s.sl 7 = int j ∧ (j ≤ M.length)) (fun (j, v) => M.length - j) ((0, 1)) (by refine ⟨?_, ?_, ?_, ?_, ?_, by omega⟩ <;> (first | (simp (maxSteps := 5000000) -dsimp only [gr, Nat.reduceEqDiff, Nat.reduceLT, Nat.reduceAdd, Nat.reduceMod, Nat.reduceBEq, sid_mod, sid_ne1, sid_ne2, sid_inj]; first | done | rfl | (simp; done)) | assumption | rfl)) ?_
  intro (j, v) sa ⟨h5a, r10a, h6a, r13a, h7a, hIa⟩
  have hcl := colSums_length M M.length j
  simp (maxSteps := 5000000) -dsimp only [↓gp, gq, reduceCtorEq, Nat.reduceEqDiff, Nat.reduceLT, Nat.reduceLeDiff, Nat.reduceAdd, Nat.reduceMul, Nat.reduceSub, Nat.reduceBEq, Int.reduceToNat, Int.reduceLE, Int.reduceLT, Int.reduceNeg, Nat.reduceMod, sid_ne1, sid_ne2, sid_inj, sid_mod, gT, TK.isInt, TK.agg, Array.toList, h5a, r10a, h6a, r13a, h7a]
  refine ⟨fun h => ?_, fun h => ?_⟩
  · refine loop_of (fun (i : Nat) s => s.sl 5 = .own 10 v ∧ s.rw 10 = ⟨v, .sli 3 1 false (iL (colSums M M.length j))⟩ ∧ s.sl 6 = .own 13 1 ∧ s.rw 13 = ⟨1, .sli 22 1 false (iLL M)⟩ ∧ s.sl 7 = int j ∧ s.sl 8 = int (colS M j i) ∧ s.sl 9 = int i ∧ (i ≤ M.length)) (fun i => M.length - i) (0) (by refine ⟨?_, ?_, ?_, ?_, ?_, ?_, ?_, by omega⟩ <;> (first | (simp (maxSteps := 5000000) -dsimp only [gr, Nat.reduceEqDiff, Nat.reduceLT, Nat.reduceAdd, Nat.reduceMod, Nat.reduceBEq, sid_mod, sid_ne1, sid_ne2, sid_inj, h5a, r10a, h6a, r13a, h7a, colS]; first | done | rfl | (simp; done)) | assumption | rfl)) ?_
    intro i sb ⟨h5b, r10b, h6b, r13b, h7b, h8b, h9b, hIb⟩
    simp (maxSteps := 5000000) -dsimp only [↓gp, gq, reduceCtorEq, Nat.reduceEqDiff, Nat.reduceLT, Nat.reduceLeDiff, Nat.reduceAdd, Nat.reduceMul, Nat.reduceSub, Nat.reduceBEq, Int.reduceToNat, Int.reduceLE, Int.reduceLT, Int.reduceNeg, Nat.reduceMod, sid_ne1, sid_ne2, sid_inj, sid_mod, gT, TK.isInt, TK.agg, Array.toList, h5b, r10b, h6b, r13b, h7b, h8b, h9b]
    refine ⟨fun h2 => ?_, fun h2 => ?_⟩
    · have hw := colS_wrap hsq (j := j) h2
      have hr := hsq.row i h2
      have hsm := hsq.small i j
      have hm : (i : Int).tmod 2 = ((i % 2 : Nat) : Int) := by rw [tmod_nn (by omega)]; omega
      have hw1 : IntKind.i64.wrap (2 * ((i % 2 : Nat) : Int)) = 2 * ((i % 2 : Nat) : Int) := wrap_id (by omega) (by omega)
      have hw2 : IntKind.i64.wrap (1 - 2 * ((i % 2 : Nat) : Int)) = 1 - 2 * ((i % 2 : Nat) : Int) := wrap_id (by omega) (by omega)
      have hs : (1 - 2 * ((i % 2 : Nat) : Int)) * (M.getD i []).getD j 0 = sgI i ((M.getD i []).getD j 0) := by
        unfold sgI
        rcases Nat.mod_two_eq_zero_or_one i with e | e
        · rw [e, if_pos rfl]; simp
        · rw [e, if_neg (by decide)]; simp
      have hw3 : IntKind.i64.wrap ((1 - 2 * ((i % 2 : Nat) : Int)) * (M.getD i []).getD j 0) = sgI i ((M.getD i []).getD j 0) := by
        rw [hs, wrap_id] <;> unfold sgI <;> split <;> omega
      simp (maxSteps := 5000000) -dsimp only [↓gp, gq, reduceCtorEq, Nat.reduceEqDiff, Nat.reduceLT, Nat.reduceLeDiff, Nat.reduceAdd, Nat.reduceMul, Nat.reduceSub, Nat.reduceBEq, Int.reduceToNat, Int.reduceLE, Int.reduceLT, Int.reduceNeg, Nat.reduceMod, sid_ne1, sid_ne2, sid_inj, sid_mod, gT, TK.isInt, TK.agg, Array.toList, h5b, r10b, h6b, r13b, h7b, h8b, h9b, hr, hm, hw1, hw2, hw3, hw]
      exact ⟨by decide, h2, h2, h, h, again_of (i + 1) (by refine ⟨?_, ?_, ?_, ?_, ?_, ?_, ?_, by omega⟩ <;> (first | (simp (maxSteps := 5000000) -dsimp only [gr, Nat.reduceEqDiff, Nat.reduceLT, Nat.reduceAdd, Nat.reduceMod, Nat.reduceBEq, sid_mod, sid_ne1, sid_ne2, sid_inj, h5b, r10b, h6b, r13b, h7b, h8b, h9b, wrap_nat h2 (by omega)]; first | done | rfl | (simp; done)) | assumption | rfl)) (by first | omega | (simp only; omega) | (dsimp only; omega) | (show _ < _; simp; omega))⟩
    · have : i = M.length := by omega
      subst this
      have e := colSums_snoc M M.length j
      refine ⟨by omega, again_of ((j + 1, v + 1)) (by refine ⟨?_, ?_, ?_, ?_, ?_, by dsimp only; omega⟩ <;> (first | (simp (maxSteps := 5000000) -dsimp only [gr, Nat.reduceEqDiff, Nat.reduceLT, Nat.reduceAdd, Nat.reduceMod, Nat.reduceBEq, sid_mod, sid_ne1, sid_ne2, sid_inj, h5a, r10a, h6a, r13a, h7a, h5b, r10b, h6b, r13b, h7b, h8b, h9b, wrap_nat h (by omega), e]; first | done | rfl | (simp; done)) | assumption | rfl)) (by first | omega | (simp only; omega) | (dsimp only; omega) | (show _ < _; simp; omega))⟩
  · have : j = M.length := by omega
    rw [this]
theorem c_impl_SignedSums (n : Int) (xs : List Int) (p : Int) : AC Try.prog 33 [.ag [int n, ints xs], int p] (.fr 3 1 (iL (sgnO n xs p))) := by
  refine AC.go (rs := [.tmp 4]) T_ok mixed Try.func33 rfl rfl rfl (by kernel_rfl) fun hl => ?_
  simp (maxSteps := 5000000) -dsimp only [↓gp, gq, reduceCtorEq, Nat.reduceEqDiff, Nat.reduceLT, Nat.reduceLeDiff, Nat.reduceAdd, Nat.reduceMul, Nat.reduceSub, Nat.reduceBEq, Int.reduceToNat, Int.reduceLE, Int.reduceLT, Int.reduceNeg, Nat.reduceMod, sid_ne1, sid_ne2, sid_inj, sid_mod, gT, TK.isInt, TK.agg, Array.toList]
  refine askK_of (c_impl_BettiTableF n xs p) ?_
  have hsq := betR_sq n xs p
  unfold sgnO
  generalize betR n xs p = M at *
  have hl7 := hsq.len
  simp (maxSteps := 5000000) -dsimp only [↓gp, gq, reduceCtorEq, Nat.reduceEqDiff, Nat.reduceLT, Nat.reduceLeDiff, Nat.reduceAdd, Nat.reduceMul, Nat.reduceSub, Nat.reduceBEq, Int.reduceToNat, Int.reduceLE, Int.reduceLT, Int.reduceNeg, Nat.reduceMod, sid_ne1, sid_ne2, sid_inj, sid_mod, gT, TK.isInt, TK.agg, Array.toList, Int.toNat_natCast]
  have hini : List.replicate M.length (0 : Int) = colP M 0 0 := by
    refine List.ext_getElem (by simp [colP]) fun j a b => by simp [colP, colS]
  refine ⟨by omega, by omega, ?_⟩
  refine loop_of (fun (za : Nat × Nat) s => match za with | (i, v) => s.sl 5 = .own 13 1 ∧ s.rw 13 = ⟨1, .sli 22 1 false (iLL M)⟩ ∧ s.sl 6 = .own 16 v ∧ s.rw 16 = ⟨v, .sli 3 1 false (iL (colP M i 0))⟩ ∧ s.sl 17 = .own 13 1 ∧ s.sl 18 = int M.length ∧ s.sl 19 = int i ∧ (i ≤ M.length)) (fun (i, v) => M.length - i) ((0, 1)) (by refine ⟨?_, ?_, ?_, ?_, ?_, ?_, ?_, by omega⟩ <;> (first | (simp (maxSteps := 5000000) -dsimp only [gr, Nat.reduceEqDiff, Nat.reduceLT, Nat.reduceAdd, Nat.reduceMod, Nat.reduceBEq, sid_mod, sid_ne1, sid_ne2, sid_inj, iL_replicate, hini]; first | done | rfl | (simp; done)) | assumption | rfl)) ?_
  intro (i, v) sa ⟨h5a, r13a, h6a, r16a, h17a, h18a, h19a, hIa⟩
  simp (maxSteps := 5000000) -dsimp only [↓gp, gq, reduceCtorEq, Nat.reduceEqDiff, Nat.reduceLT, Nat.reduceLeDiff, Nat.reduceAdd, Nat.reduceMul, Nat.reduceSub, Nat.reduceBEq, Int.reduceToNat, Int.reduceLE, Int.reduceLT, Int.reduceNeg, Nat.reduceMod, sid_ne1, sid_ne2, sid_inj, sid_mod, gT, TK.isInt, TK.agg, Array.toList, h5a, r13a, h6a, r16a, h17a, h18a, h19a]
  refine ⟨fun h => ?_, fun h => ?_⟩
  · have hr := hsq.row i h
    refine ⟨h, h, ?_⟩
    refine loop_of (fun (zb : Nat × Nat) s => match zb with | (j, u) => s.sl 5 = .own 13 1 ∧ s.rw 13 = ⟨1, .sli 22 1 false (iLL M)⟩ ∧ s.sl 6 = .own 16 u ∧ s.rw 16 = ⟨u, .sli 3 1 false (iL (colP M i j))⟩ ∧ s.sl 17 = .own 13 1 ∧ s.sl 18 = int M.length ∧ s.sl 19 = int i ∧ s.sl 7 = int i ∧ s.sl 24 = .sl true 1 (iL (M.getD i [])) ∧ s.sl 25 = int M.length ∧ s.sl 26 = int j ∧ (j ≤ M.length)) (fun (j, u) => M.length - j) ((0, v)) (by refine ⟨?_, ?_, ?_, ?_, ?_, ?_, ?_, ?_, ?_, ?_, ?_, by omega⟩ <;> (first | (simp (maxSteps := 5000000) -dsimp only [gr, Nat.reduceEqDiff, Nat.reduceLT, Nat.reduceAdd, Nat.reduceMod, Nat.reduceBEq, sid_mod, sid_ne1, sid_ne2, sid_inj, h5a, r13a, h6a, r16a, h17a, h18a, h19a, hr]; first | done | rfl | (simp; done)) | assumption | rfl)) ?_
    intro (j, u) sb ⟨h5b, r13b, h6b, r16b, h17b, h18b, h19b, h7b, h24b, h25b, h26b, hIb⟩
    have hm : (i : Int).tmod 2 = ((i % 2 : Nat) : Int) := by rw [tmod_nn (by omega)]; omega
    have hcl := colP_length M i j
    by_cases h2 : j < M.length
    · have hw := colS_wrap hsq (j := j) h
      have hg := colP_getD M i h2
      have hset : (colP M i j).set j (colS M j (i + 1)) = colP M i (j + 1) := colP_set M i h2
      have hsm := hsq.small i j
      have hneg : IntKind.i64.wrap (0 - (M.getD i []).getD j 0) = -(M.getD i []).getD j 0 := by rw [wrap_id (by omega) (by omega)]; omega
      simp (maxSteps := 5000000) -dsimp only [↓gp, gq, reduceCtorEq, Nat.reduceEqDiff, Nat.reduceLT, Nat.reduceLeDiff, Nat.reduceAdd, Nat.reduceMul, Nat.reduceSub, Nat.reduceBEq, Int.reduceToNat, Int.reduceLE, Int.reduceLT, Int.reduceNeg, Nat.reduceMod, sid_ne1, sid_ne2, sid_inj, sid_mod, gT, TK.isInt, TK.agg, Array.toList, h5b, r13b, h6b, r16b, h17b, h18b, h19b, h7b, h24b, h25b, h26b, hr, hm, hneg, hg, hcl]
      refine ⟨fun _ => ⟨h2, h2, by decide, fun h3 => ⟨h2, h2, h2, by omega, ?_⟩, fun h3 => ⟨h2, h2, h2, by omega, ?_⟩⟩, fun h => absurd h2 h⟩
      · have es : sgI i ((M.getD i []).getD j 0) = -(M.getD i []).getD j 0 := by
          have h3 : ((i % 2 : Nat) : Int) = 1 := by simpa using h3
          unfold sgI; rw [if_neg (by omega)]
        rw [es] at hw
        exact again_of ((j + 1, u)) (by refine ⟨?_, ?_, ?_, ?_, ?_, ?_, ?_, ?_, ?_, ?_, ?_, by dsimp only; omega⟩ <;> (first | (simp (maxSteps := 5000000) -dsimp only [gr, Nat.reduceEqDiff, Nat.reduceLT, Nat.reduceAdd, Nat.reduceMod, Nat.reduceBEq, sid_mod, sid_ne1, sid_ne2, sid_inj, h5b, r13b, h6b, r16b, h17b, h18b, h19b, h7b, h24b, h25b, h26b, wrap_nat h2 (by omega), hneg, hg, hw, hset]; first | done | rfl | (simp; done)) | assumption | rfl)) (by first | omega | (simp only; omega) | (dsimp only; omega) | (show _ < _; simp; omega))
      · have es : sgI i ((M.getD i []).getD j 0) = (M.getD i []).getD j 0 := by
          have h3 : ¬ ((i % 2 : Nat) : Int) = 1 := by simpa using h3
          unfold sgI; rw [if_pos (by omega)]
        rw [es] at hw
        exact again_of ((j + 1, u)) (by refine ⟨?_, ?_, ?_, ?_, ?_, ?_, ?_, ?_, ?_, ?_, ?_, by dsimp only; omega⟩ <;> (first | (simp (maxSteps := 5000000) -dsimp only [gr, Nat.reduceEqDiff, Nat.reduceLT, Nat.reduceAdd, Nat.reduceMod, Nat.reduceBEq, sid_mod, sid_ne1, sid_ne2, sid_inj, h5b, r13b, h6b, r16b, h17b, h18b, h19b, h7b, h24b, h25b, h26b, wrap_nat h2 (by omega), hg, hw, hset]; first | done | rfl | (simp; done)) | assumption | rfl)) (by first | omega | (simp only; omega) | (dsimp only; omega) | (show _ < _; simp; omega))
    · simp (maxSteps := 5000000) -dsimp only [↓gp, gq, reduceCtorEq, Nat.reduceEqDiff, Nat.reduceLT, Nat.reduceLeDiff, Nat.reduceAdd, Nat.reduceMul, Nat.reduceSub, Nat.reduceBEq, Int.reduceToNat, Int.reduceLE, Int.reduceLT, Int.reduceNeg, Nat.reduceMod, sid_ne1, sid_ne2, sid_inj, sid_mod, gT, TK.isInt, TK.agg, Array.toList, h5b, r13b, h6b, r16b, h17b, h18b, h19b, h7b, h24b, h25b, h26b, hr]
      refine ⟨fun h => absurd h h2, fun _ => ?_⟩
      have : j = M.length := by omega
      subst this
      have e := colP_end M i
      exact again_of ((i + 1, u)) (by refine ⟨?_, ?_, ?_, ?_, ?_, ?_, ?_, by dsimp only; omega⟩ <;> (first | (simp (maxSteps := 5000000) -dsimp only [gr, Nat.reduceEqDiff, Nat.reduceLT, Nat.reduceAdd, Nat.reduceMod, Nat.reduceBEq, sid_mod, sid_ne1, sid_ne2, sid_inj, h5a, r13a, h6a, r16a, h17a, h18a, h19a, h5b, r13b, h6b, r16b, h17b, h18b, h19b, h7b, h24b, h25b, h26b, wrap_nat h (by omega), e]; first | done | rfl | (simp; done)) | assumption | rfl)) (by first | omega | (simp only; omega) | (dsimp only; omega) | (show _ < _; simp; omega))
  · have : i = M.length := by omega
    subst this
    rw [colP_zero]
end Go.Proofs.Ytlapkhmehcnjeaa
