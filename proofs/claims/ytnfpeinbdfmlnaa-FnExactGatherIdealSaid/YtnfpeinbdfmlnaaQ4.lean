/- DERIVED by an AI agent. -/
import Derived.Test.YtnfpeinbdfmlnaaQ2
import Derived.Test.YtnfpeinbdfmlnaaP1
namespace Go.Proofs.Ytnfpeinbdfmlnaa
open Go.Abs
set_option linter.unusedSimpArgs false
set_option linter.unusedVariables false

theorem c_impl_hasSet (F s : Nat) (hF : F < 18446744073709551616) (hs : s < 64) : AC Try.prog 128 [u64 F, int s] (.im (bool (F.testBit s))) := by
  refine AC.go (rs := [.tmp 4]) T_ok mixed Try.func128 rfl rfl rfl (by kernel_rfl) fun hl => ?_
  have hw : IntKind.u64.wrap (s : Int) = (s : Int) := uwrap_id (by omega)
  simp (maxSteps := 5000000) -dsimp only [↓gp, gq, reduceCtorEq, Nat.reduceEqDiff, Nat.reduceLT, Nat.reduceLeDiff, Nat.reduceAdd, Nat.reduceMul, Nat.reduceSub, Nat.reduceBEq, Int.reduceToNat, Int.reduceLE, Int.reduceLT, Int.reduceNeg, Nat.reduceMod, sid_ne1, sid_ne2, sid_inj, sid_mod, gT, TK.isInt, TK.agg, Array.toList, hw, bit_test hF hs]
/-- A loop's numbers. -/
theorem c_impl_setsIn (F : Nat) (hF : F < 18446744073709551616) : AC Try.prog 88 [u64 F] (.fr 3 1 (iL (ofN (ordN F.testBit)))) := by
  refine AC.go (rs := [.tmp 2]) T_ok mixed Try.func88 rfl rfl rfl (by kernel_rfl) fun hl => ?_
  simp (maxSteps := 5000000) -dsimp only [↓gp, gq, reduceCtorEq, Nat.reduceEqDiff, Nat.reduceLT, Nat.reduceLeDiff, Nat.reduceAdd, Nat.reduceMul, Nat.reduceSub, Nat.reduceBEq, Int.reduceToNat, Int.reduceLE, Int.reduceLT, Int.reduceNeg, Nat.reduceMod, sid_ne1, sid_ne2, sid_inj, sid_mod, gT, TK.isInt, TK.agg, Array.toList]
  refine loop_of (fun (za : Nat × Nat) s => match za with | (k, v) => s.sl 0 = u64 F ∧ s.sl 3 = .own 3 v ∧ s.rw 3 = ⟨v, .sli 3 1 false (iL (ofN (ordP F.testBit k 0)))⟩ ∧ s.sl 4 = int k ∧ (k ≤ 7)) (fun (k, v) => 7 - k) ((0, 1)) (by refine ⟨?_, ?_, ?_, ?_, by simp⟩ <;> (first | (simp (maxSteps := 5000000) -dsimp only [gr, Nat.reduceEqDiff, Nat.reduceLT, Nat.reduceAdd, Nat.reduceMod, Nat.reduceBEq, sid_mod, sid_ne1, sid_ne2, sid_inj]; first | done | rfl | (simp; done)) | assumption | rfl)) ?_
  intro (k, v) sa ⟨h0a, h3a, r3a, h4a, hIa⟩
  simp (maxSteps := 5000000) -dsimp only [↓gp, gq, reduceCtorEq, Nat.reduceEqDiff, Nat.reduceLT, Nat.reduceLeDiff, Nat.reduceAdd, Nat.reduceMul, Nat.reduceSub, Nat.reduceBEq, Int.reduceToNat, Int.reduceLE, Int.reduceLT, Int.reduceNeg, Nat.reduceMod, sid_ne1, sid_ne2, sid_inj, sid_mod, gT, TK.isInt, TK.agg, Array.toList, h0a, h3a, r3a, h4a]
  refine ⟨fun hk => ?_, fun hk => ?_⟩
  · refine loop_of (fun (zb : Nat × Nat) s => match zb with | (m, v) => s.sl 0 = u64 F ∧ s.sl 3 = .own 3 v ∧ s.rw 3 = ⟨v, .sli 3 1 false (iL (ofN (ordP F.testBit k m)))⟩ ∧ s.sl 4 = int k ∧ s.sl 5 = int m ∧ (m ≤ 64)) (fun (m, v) => 64 - m) ((0, v)) (by refine ⟨?_, ?_, ?_, ?_, ?_, by simp⟩ <;> (first | (simp (maxSteps := 5000000) -dsimp only [gr, Nat.reduceEqDiff, Nat.reduceLT, Nat.reduceAdd, Nat.reduceMod, Nat.reduceBEq, sid_mod, sid_ne1, sid_ne2, sid_inj, h0a, h3a, r3a, h4a]; first | done | rfl | (simp; done)) | assumption | rfl)) ?_
    intro (m, v) sb ⟨h0b, h3b, r3b, h4b, h5b, hIb⟩
    simp (maxSteps := 5000000) -dsimp only [↓gp, gq, reduceCtorEq, Nat.reduceEqDiff, Nat.reduceLT, Nat.reduceLeDiff, Nat.reduceAdd, Nat.reduceMul, Nat.reduceSub, Nat.reduceBEq, Int.reduceToNat, Int.reduceLE, Int.reduceLT, Int.reduceNeg, Nat.reduceMod, sid_ne1, sid_ne2, sid_inj, sid_mod, gT, TK.isInt, TK.agg, Array.toList, h0b, h3b, r3b, h4b, h5b]
    refine ⟨fun hm => ?_, fun hm => ?_⟩
    · have hm : m < 64 := by omega
      refine askK_of (c_impl_hasSet F m hF hm) ?_
      simp (maxSteps := 5000000) -dsimp only [↓gp, gq, reduceCtorEq, Nat.reduceEqDiff, Nat.reduceLT, Nat.reduceLeDiff, Nat.reduceAdd, Nat.reduceMul, Nat.reduceSub, Nat.reduceBEq, Int.reduceToNat, Int.reduceLE, Int.reduceLT, Int.reduceNeg, Nat.reduceMod, sid_ne1, sid_ne2, sid_inj, sid_mod, gT, TK.isInt, TK.agg, Array.toList, h0b, h3b, r3b, h4b, h5b]
      have hlen := ordP_len F.testBit k m
      have hz : szOf (m : Int) = (popN m : Nat) := by rw [szOf, if_pos (by omega)]; simp
      refine ⟨fun hf => askK_of (c_impl_SizeOf _) ?_, fun hf => ?_⟩
      · simp (maxSteps := 5000000) -dsimp only [↓gp, gq, reduceCtorEq, Nat.reduceEqDiff, Nat.reduceLT, Nat.reduceLeDiff, Nat.reduceAdd, Nat.reduceMul, Nat.reduceSub, Nat.reduceBEq, Int.reduceToNat, Int.reduceLE, Int.reduceLT, Int.reduceNeg, Nat.reduceMod, sid_ne1, sid_ne2, sid_inj, sid_mod, gT, TK.isInt, TK.agg, Array.toList, h0b, h3b, r3b, h4b, h5b, hz]
        refine ⟨fun hp => ?_, fun hp => ?_⟩
        · have hy : ordP F.testBit k (m + 1) = ordP F.testBit k m ++ [m] := ordP_yes (by rw [hf]; simp at hp ⊢; omega)
          refine ⟨by rw [ofN_length]; omega, ?_⟩
          exact again_of ((m + 1, v + 1)) (by refine ⟨?_, ?_, ?_, ?_, ?_, by omega⟩ <;> (first | (simp (maxSteps := 5000000) -dsimp only [gr, Nat.reduceEqDiff, Nat.reduceLT, Nat.reduceAdd, Nat.reduceMod, Nat.reduceBEq, sid_mod, sid_ne1, sid_ne2, sid_inj, h0b, h3b, r3b, h4b, h5b, wrap_nat hm (by omega), hy, ofN_append, ofN_one]; first | done | rfl | (simp; done)) | assumption | rfl)) (by first | omega | (simp only; omega) | (dsimp only; omega) | (show _ < _; simp; omega))
        · have hy : ordP F.testBit k (m + 1) = ordP F.testBit k m := ordP_no (by rw [hf]; simp at hp ⊢; omega)
          exact again_of ((m + 1, v)) (by refine ⟨?_, ?_, ?_, ?_, ?_, by omega⟩ <;> (first | (simp (maxSteps := 5000000) -dsimp only [gr, Nat.reduceEqDiff, Nat.reduceLT, Nat.reduceAdd, Nat.reduceMod, Nat.reduceBEq, sid_mod, sid_ne1, sid_ne2, sid_inj, h0b, h3b, r3b, h4b, h5b, wrap_nat hm (by omega), hy]; first | done | rfl | (simp; done)) | assumption | rfl)) (by first | omega | (simp only; omega) | (dsimp only; omega) | (show _ < _; simp; omega))
      · have hy : ordP F.testBit k (m + 1) = ordP F.testBit k m := ordP_no (by rw [hf]; rfl)
        exact again_of ((m + 1, v)) (by refine ⟨?_, ?_, ?_, ?_, ?_, by omega⟩ <;> (first | (simp (maxSteps := 5000000) -dsimp only [gr, Nat.reduceEqDiff, Nat.reduceLT, Nat.reduceAdd, Nat.reduceMod, Nat.reduceBEq, sid_mod, sid_ne1, sid_ne2, sid_inj, h0b, h3b, r3b, h4b, h5b, wrap_nat hm (by omega), hy]; first | done | rfl | (simp; done)) | assumption | rfl)) (by first | omega | (simp only; omega) | (dsimp only; omega) | (show _ < _; simp; omega))
    · have : m = 64 := by omega
      subst this
      have hk : k < 7 := by omega
      exact again_of ((k + 1, v)) (by refine ⟨?_, ?_, ?_, ?_, by omega⟩ <;> (first | (simp (maxSteps := 5000000) -dsimp only [gr, Nat.reduceEqDiff, Nat.reduceLT, Nat.reduceAdd, Nat.reduceMod, Nat.reduceBEq, sid_mod, sid_ne1, sid_ne2, sid_inj, h0a, h3a, r3a, h4a, h0b, h3b, r3b, h4b, h5b, wrap_nat hk (by omega), ordP_next]; first | done | rfl | (simp; done)) | assumption | rfl)) (by first | omega | (simp only; omega) | (dsimp only; omega) | (show _ < _; simp; omega))
  · have : k = 7 := by omega
    subst this
    rw [ordP_all]
theorem c_impl_pickSets (n : Nat) (hn : n ≤ 6) (g : FuncId) (caps : List PV) (w : Nat → Bool) (hcap : ∀ rw, caps.map (lend rw 3) = caps) (hw : ∀ s : Nat, s < 2 ^ n → AC Try.prog g (int s :: caps) (.im (bool (w s)))) :
    AC Try.prog 126 [int n, .clo g caps] (.im (u64 (maskF w (2 ^ n) : Nat))) := by
  refine AC.go (rs := [.tmp 4]) T_ok mixed Try.func126 rfl rfl rfl (by kernel_rfl) fun hl => ?_
  have h64 := two_pow_le hn
  have hsh : ishl .i64 1 (n : Int) = ((2 ^ n : Nat) : Int) := ishl_small hn
  have hun : IntKind.u64.wrap (n : Int) = (n : Int) := uwrap_id (by omega)
  simp (maxSteps := 5000000) -dsimp only [↓gp, gq, reduceCtorEq, Nat.reduceEqDiff, Nat.reduceLT, Nat.reduceLeDiff, Nat.reduceAdd, Nat.reduceMul, Nat.reduceSub, Nat.reduceBEq, Int.reduceToNat, Int.reduceLE, Int.reduceLT, Int.reduceNeg, Nat.reduceMod, sid_ne1, sid_ne2, sid_inj, sid_mod, gT, TK.isInt, TK.agg, Array.toList]
  refine loop_of (fun (k : Nat) s => s.sl 0 = int n ∧ s.sl 1 = .clo g caps ∧ s.sl 5 = u64 (maskF w k : Nat) ∧ s.sl 6 = int k ∧ (k ≤ 2 ^ n)) (fun k => 2 ^ n - k) (0) (by refine ⟨?_, ?_, ?_, ?_, by simp⟩ <;> (first | (simp (maxSteps := 5000000) -dsimp only [gr, Nat.reduceEqDiff, Nat.reduceLT, Nat.reduceAdd, Nat.reduceMod, Nat.reduceBEq, sid_mod, sid_ne1, sid_ne2, sid_inj]; first | done | rfl | (simp; done)) | assumption | rfl)) ?_
  intro k sa ⟨h0a, h1a, h5a, h6a, hIa⟩
  have hlt := maskF_lt w k
  have h2k : (2 : Nat) ^ k ≤ 2 ^ 64 := Nat.pow_le_pow_right (by omega) (by omega)
  simp (maxSteps := 5000000) -dsimp only [↓gp, gq, reduceCtorEq, Nat.reduceEqDiff, Nat.reduceLT, Nat.reduceLeDiff, Nat.reduceAdd, Nat.reduceMul, Nat.reduceSub, Nat.reduceBEq, Int.reduceToNat, Int.reduceLE, Int.reduceLT, Int.reduceNeg, Nat.reduceMod, sid_ne1, sid_ne2, sid_inj, sid_mod, gT, TK.isInt, TK.agg, Array.toList, h0a, h1a, h5a, h6a, hun, hsh, hcap]
  refine ⟨fun hk => askK_of (hw k hk) ?_, fun hk => ?_⟩
  · have huk : IntKind.u64.wrap (k : Int) = (k : Int) := uwrap_id (by omega)
    have h2s : (2 : Nat) ^ k < 18446744073709551616 := by
      have : (2 : Nat) ^ k < 2 ^ 64 := Nat.pow_lt_pow_right (by omega) (by omega)
      omega
    have hor : ior .u64 (maskF w k : Nat) (ishl .u64 1 (k : Int)) = ((maskF w k ||| 2 ^ k : Nat) : Int) := by
      rw [ishl_u (by omega), ior_u (by omega) h2s]
    simp (maxSteps := 5000000) -dsimp only [↓gp, gq, reduceCtorEq, Nat.reduceEqDiff, Nat.reduceLT, Nat.reduceLeDiff, Nat.reduceAdd, Nat.reduceMul, Nat.reduceSub, Nat.reduceBEq, Int.reduceToNat, Int.reduceLE, Int.reduceLT, Int.reduceNeg, Nat.reduceMod, sid_ne1, sid_ne2, sid_inj, sid_mod, gT, TK.isInt, TK.agg, Array.toList, h0a, h1a, h5a, h6a, hun, hsh, huk, hor]
    refine ⟨fun hf => ?_, fun hf => ?_⟩
    · have hm : maskF w (k + 1) = maskF w k ||| 2 ^ k := by rw [maskF, if_pos hf]
      exact again_of (k + 1) (by refine ⟨?_, ?_, ?_, ?_, by omega⟩ <;> (first | (simp (maxSteps := 5000000) -dsimp only [gr, Nat.reduceEqDiff, Nat.reduceLT, Nat.reduceAdd, Nat.reduceMod, Nat.reduceBEq, sid_mod, sid_ne1, sid_ne2, sid_inj, h0a, h1a, h5a, h6a, wrap_nat hk (by omega), huk, hor, hm]; first | done | rfl | (simp; done)) | assumption | rfl)) (by first | omega | (simp only; omega) | (dsimp only; omega) | (show _ < _; simp; omega))
    · have hm : maskF w (k + 1) = maskF w k := by rw [maskF, if_neg (by rw [hf]; decide)]
      exact again_of (k + 1) (by refine ⟨?_, ?_, ?_, ?_, by omega⟩ <;> (first | (simp (maxSteps := 5000000) -dsimp only [gr, Nat.reduceEqDiff, Nat.reduceLT, Nat.reduceAdd, Nat.reduceMod, Nat.reduceBEq, sid_mod, sid_ne1, sid_ne2, sid_inj, h0a, h1a, h5a, h6a, wrap_nat hk (by omega), hm]; first | done | rfl | (simp; done)) | assumption | rfl)) (by first | omega | (simp only; omega) | (dsimp only; omega) | (show _ < _; simp; omega))
  · have : k = 2 ^ n := by omega
    rw [this]
/-- The list without what follows. -/
theorem split_at {l : List Nat} {k : Nat} (h : k < l.length) : l = l.take k ++ l.getD k 0 :: l.drop (k + 1) := by
  rw [← drop_step 0 h, List.take_append_drop]
theorem filt_yes {l : List Nat} {p : Nat → Bool} {k : Nat} (h : k < l.length) (hp : p (l.getD k 0) = true) : (l.take (k + 1)).filter p = (l.take k).filter p ++ [l.getD k 0] := by
  rw [take_snoc 0 h, List.filter_append]; simp only [List.filter_cons, hp, if_true, List.filter_nil]
theorem filt_no {l : List Nat} {p : Nat → Bool} {k : Nat} (h : k < l.length) (hp : p (l.getD k 0) = false) : (l.take (k + 1)).filter p = (l.take k).filter p := by
  rw [take_snoc 0 h, List.filter_append]; simp only [List.filter_cons, hp, Bool.false_eq_true, if_false, List.filter_nil, List.append_nil]
theorem filt_len {l : List Nat} {p : Nat → Bool} : (l.filter p).length ≤ l.length := List.length_filter_le _ _
theorem c_impl_minimalIn (F : Nat) (hF : F < 18446744073709551616) : AC Try.prog 169 [u64 F] (.fr 3 1 (iL (ofN (extN F.testBit false)))) := by
  refine AC.go (rs := [.tmp 2]) T_ok mixed Try.func169 rfl rfl rfl (by kernel_rfl) fun hl => ?_
  simp (maxSteps := 5000000) -dsimp only [↓gp, gq, reduceCtorEq, Nat.reduceEqDiff, Nat.reduceLT, Nat.reduceLeDiff, Nat.reduceAdd, Nat.reduceMul, Nat.reduceSub, Nat.reduceBEq, Int.reduceToNat, Int.reduceLE, Int.reduceLT, Int.reduceNeg, Nat.reduceMod, sid_ne1, sid_ne2, sid_inj, sid_mod, gT, TK.isInt, TK.agg, Array.toList]
  refine askK_of (c_impl_setsIn F hF) ?_
  simp (maxSteps := 5000000) -dsimp only [↓gp, gq, reduceCtorEq, Nat.reduceEqDiff, Nat.reduceLT, Nat.reduceLeDiff, Nat.reduceAdd, Nat.reduceMul, Nat.reduceSub, Nat.reduceBEq, Int.reduceToNat, Int.reduceLE, Int.reduceLT, Int.reduceNeg, Nat.reduceMod, sid_ne1, sid_ne2, sid_inj, sid_mod, gT, TK.isInt, TK.agg, Array.toList]
  have hfull := ordN_len F.testBit
  have hmem : ∀ k, k < (ordN F.testBit).length → (ordN F.testBit).getD k 0 < 64 := fun k hk => (mem_ordN.1 (getD_mem 0 hk)).1
  have hsplit : ∀ k, k < (ordN F.testBit).length → ordN F.testBit = (ordN F.testBit).take k ++ (ordN F.testBit).getD k 0 :: (ordN F.testBit).drop (k + 1) := fun k hk => split_at hk
  have hmin : ∀ k, k < (ordN F.testBit).length → ((∃ t, t ∈ ((ordN F.testBit).take k).filter (extB F.testBit false) ∧ t &&& (ordN F.testBit).getD k 0 = t) ↔ extB F.testBit false ((ordN F.testBit).getD k 0) = false) := fun k hk => min_before (hsplit k hk)
  unfold extN
  generalize ordN F.testBit = all at *
  refine loop_of (fun (za : Nat × Nat × Nat) s => match za with | (k, v, u) => s.sl 3 = .own 3 v ∧ s.rw 3 = ⟨v, .sli 3 1 false (iL (ofN ((all.take k).filter (extB F.testBit false))))⟩ ∧ s.sl 10 = .own 10 u ∧ s.rw 10 = ⟨u, .sli 3 1 false (iL (ofN all))⟩ ∧ s.sl 11 = int all.length ∧ s.sl 12 = int k ∧ (k ≤ all.length)) (fun (k, v, u) => all.length - k) ((0, 1, 1)) (by refine ⟨?_, ?_, ?_, ?_, ?_, ?_, by simp⟩ <;> (first | (simp (maxSteps := 5000000) -dsimp only [gr, Nat.reduceEqDiff, Nat.reduceLT, Nat.reduceAdd, Nat.reduceMod, Nat.reduceBEq, sid_mod, sid_ne1, sid_ne2, sid_inj, ofN_length]; first | done | rfl | (simp; done)) | assumption | rfl)) ?_
  intro (k, v, u) sa ⟨h3a, r3a, h10a, r10a, h11a, h12a, hIa⟩
  simp (maxSteps := 5000000) -dsimp only [↓gp, gq, reduceCtorEq, Nat.reduceEqDiff, Nat.reduceLT, Nat.reduceLeDiff, Nat.reduceAdd, Nat.reduceMul, Nat.reduceSub, Nat.reduceBEq, Int.reduceToNat, Int.reduceLE, Int.reduceLT, Int.reduceNeg, Nat.reduceMod, sid_ne1, sid_ne2, sid_inj, sid_mod, gT, TK.isInt, TK.agg, Array.toList, h3a, r3a, h10a, r10a, h11a, h12a, ofN_length]
  refine ⟨fun hk => ⟨hk, hk, ?_⟩, fun hk => ?_⟩
  · have hs := hmem k hk
    have hge : (ofN all).getD k 0 = ((all.getD k 0 : Nat) : Int) := ofN_getD hk
    generalize hout : (all.take k).filter (extB F.testBit false) = out at *
    have hol : out.length ≤ k := by rw [← hout]; exact Nat.le_trans filt_len (by simp; omega)
    have hom : ∀ j, j < out.length → out.getD j 0 < 64 := fun j hj => by
      have : out.getD j 0 ∈ out := getD_mem 0 hj
      generalize out.getD j 0 = x at *
      rw [← hout] at this
      obtain ⟨i, hi, rfl⟩ := mem_getD 0 (List.mem_of_mem_take (List.mem_filter.1 this).1)
      exact hmem i hi
    refine loop_of (fun (j : Nat) s => s.sl 3 = .own 3 v ∧ s.rw 3 = ⟨v, .sli 3 1 false (iL (ofN out))⟩ ∧ s.sl 10 = .own 10 u ∧ s.rw 10 = ⟨u, .sli 3 1 false (iL (ofN all))⟩ ∧ s.sl 11 = int all.length ∧ s.sl 12 = int k ∧ s.sl 5 = int (all.getD k 0 : Nat) ∧ s.sl 6 = bool false ∧ s.sl 16 = .own 3 v ∧ s.sl 17 = int out.length ∧ s.sl 18 = int j ∧ (j ≤ out.length ∧ ∀ i, i < j → out.getD i 0 &&& all.getD k 0 ≠ out.getD i 0)) (fun j => out.length - j) (0) (by refine ⟨?_, ?_, ?_, ?_, ?_, ?_, ?_, ?_, ?_, ?_, ?_, by simp⟩ <;> (first | (simp (maxSteps := 5000000) -dsimp only [gr, Nat.reduceEqDiff, Nat.reduceLT, Nat.reduceAdd, Nat.reduceMod, Nat.reduceBEq, sid_mod, sid_ne1, sid_ne2, sid_inj, h3a, r3a, h10a, r10a, h11a, h12a, hge, ofN_length]; first | done | rfl | (simp; done)) | assumption | rfl)) ?_
    intro j sb ⟨h3b, r3b, h10b, r10b, h11b, h12b, h5b, h6b, h16b, h17b, h18b, hIb⟩
    obtain ⟨hj, hall⟩ := hIb
    simp (maxSteps := 5000000) -dsimp only [↓gp, gq, reduceCtorEq, Nat.reduceEqDiff, Nat.reduceLT, Nat.reduceLeDiff, Nat.reduceAdd, Nat.reduceMul, Nat.reduceSub, Nat.reduceBEq, Int.reduceToNat, Int.reduceLE, Int.reduceLT, Int.reduceNeg, Nat.reduceMod, sid_ne1, sid_ne2, sid_inj, sid_mod, gT, TK.isInt, TK.agg, Array.toList, h3b, r3b, h10b, r10b, h11b, h12b, h5b, h6b, h16b, h17b, h18b, ofN_length]
    have hoj : j < out.length → (ofN out).getD j 0 = ((out.getD j 0 : Nat) : Int) := fun h => ofN_getD h
    have hsub : j < out.length → (iandnot .i64 ((ofN out).getD j 0) ((all.getD k 0 : Nat) : Int) = 0 ↔ out.getD j 0 &&& all.getD k 0 = out.getD j 0) := fun h => by
      have := hom j h
      rw [hoj h, iandnot_nat (by omega) (by omega), ← xor_and_zero]
      omega
    have hmk := hmin k hk
    rw [hout] at hmk
    refine ⟨fun h2 => ⟨h2, h2, fun he => ?_, fun he => again_of (j + 1) ⟨(by (first | (simp (maxSteps := 5000000) -dsimp only [gr, Nat.reduceEqDiff, Nat.reduceLT, Nat.reduceAdd, Nat.reduceMod, Nat.reduceBEq, sid_mod, sid_ne1, sid_ne2, sid_inj, h3b, r3b, h10b, r10b, h11b, h12b, h5b, h6b, h16b, h17b, h18b, wrap_nat h2 (by omega)]; first | done | rfl | (simp; done)) | assumption | rfl)), (by (first | (simp (maxSteps := 5000000) -dsimp only [gr, Nat.reduceEqDiff, Nat.reduceLT, Nat.reduceAdd, Nat.reduceMod, Nat.reduceBEq, sid_mod, sid_ne1, sid_ne2, sid_inj, h3b, r3b, h10b, r10b, h11b, h12b, h5b, h6b, h16b, h17b, h18b, wrap_nat h2 (by omega)]; first | done | rfl | (simp; done)) | assumption | rfl)), (by (first | (simp (maxSteps := 5000000) -dsimp only [gr, Nat.reduceEqDiff, Nat.reduceLT, Nat.reduceAdd, Nat.reduceMod, Nat.reduceBEq, sid_mod, sid_ne1, sid_ne2, sid_inj, h3b, r3b, h10b, r10b, h11b, h12b, h5b, h6b, h16b, h17b, h18b, wrap_nat h2 (by omega)]; first | done | rfl | (simp; done)) | assumption | rfl)), (by (first | (simp (maxSteps := 5000000) -dsimp only [gr, Nat.reduceEqDiff, Nat.reduceLT, Nat.reduceAdd, Nat.reduceMod, Nat.reduceBEq, sid_mod, sid_ne1, sid_ne2, sid_inj, h3b, r3b, h10b, r10b, h11b, h12b, h5b, h6b, h16b, h17b, h18b, wrap_nat h2 (by omega)]; first | done | rfl | (simp; done)) | assumption | rfl)), (by (first | (simp (maxSteps := 5000000) -dsimp only [gr, Nat.reduceEqDiff, Nat.reduceLT, Nat.reduceAdd, Nat.reduceMod, Nat.reduceBEq, sid_mod, sid_ne1, sid_ne2, sid_inj, h3b, r3b, h10b, r10b, h11b, h12b, h5b, h6b, h16b, h17b, h18b, wrap_nat h2 (by omega)]; first | done | rfl | (simp; done)) | assumption | rfl)), (by (first | (simp (maxSteps := 5000000) -dsimp only [gr, Nat.reduceEqDiff, Nat.reduceLT, Nat.reduceAdd, Nat.reduceMod, Nat.reduceBEq, sid_mod, sid_ne1, sid_ne2, sid_inj, h3b, r3b, h10b, r10b, h11b, h12b, h5b, h6b, h16b, h17b, h18b, wrap_nat h2 (by omega)]; first | done | rfl | (simp; done)) | assumption | rfl)), (by (first | (simp (maxSteps := 5000000) -dsimp only [gr, Nat.reduceEqDiff, Nat.reduceLT, Nat.reduceAdd, Nat.reduceMod, Nat.reduceBEq, sid_mod, sid_ne1, sid_ne2, sid_inj, h3b, r3b, h10b, r10b, h11b, h12b, h5b, h6b, h16b, h17b, h18b, wrap_nat h2 (by omega)]; first | done | rfl | (simp; done)) | assumption | rfl)), (by (first | (simp (maxSteps := 5000000) -dsimp only [gr, Nat.reduceEqDiff, Nat.reduceLT, Nat.reduceAdd, Nat.reduceMod, Nat.reduceBEq, sid_mod, sid_ne1, sid_ne2, sid_inj, h3b, r3b, h10b, r10b, h11b, h12b, h5b, h6b, h16b, h17b, h18b, wrap_nat h2 (by omega)]; first | done | rfl | (simp; done)) | assumption | rfl)), (by (first | (simp (maxSteps := 5000000) -dsimp only [gr, Nat.reduceEqDiff, Nat.reduceLT, Nat.reduceAdd, Nat.reduceMod, Nat.reduceBEq, sid_mod, sid_ne1, sid_ne2, sid_inj, h3b, r3b, h10b, r10b, h11b, h12b, h5b, h6b, h16b, h17b, h18b, wrap_nat h2 (by omega)]; first | done | rfl | (simp; done)) | assumption | rfl)), (by (first | (simp (maxSteps := 5000000) -dsimp only [gr, Nat.reduceEqDiff, Nat.reduceLT, Nat.reduceAdd, Nat.reduceMod, Nat.reduceBEq, sid_mod, sid_ne1, sid_ne2, sid_inj, h3b, r3b, h10b, r10b, h11b, h12b, h5b, h6b, h16b, h17b, h18b, wrap_nat h2 (by omega)]; first | done | rfl | (simp; done)) | assumption | rfl)), (by (first | (simp (maxSteps := 5000000) -dsimp only [gr, Nat.reduceEqDiff, Nat.reduceLT, Nat.reduceAdd, Nat.reduceMod, Nat.reduceBEq, sid_mod, sid_ne1, sid_ne2, sid_inj, h3b, r3b, h10b, r10b, h11b, h12b, h5b, h6b, h16b, h17b, h18b, wrap_nat h2 (by omega)]; first | done | rfl | (simp; done)) | assumption | rfl)), ⟨by omega, fun i hi => ?_⟩⟩ (by first | omega | (simp only; omega) | (dsimp only; omega) | (show _ < _; simp; omega))⟩, fun h2 => ⟨by omega, ?_⟩⟩
    · have hx : extB F.testBit false (all.getD k 0) = false := hmk.1 ⟨_, getD_mem 0 h2, (hsub h2).1 (beq_iff_eq.1 he)⟩
      have hno : (all.take (k + 1)).filter (extB F.testBit false) = out := by rw [filt_no hk hx, hout]
      exact again_of ((k + 1, v, u)) (by refine ⟨?_, ?_, ?_, ?_, ?_, ?_, by omega⟩ <;> (first | (simp (maxSteps := 5000000) -dsimp only [gr, Nat.reduceEqDiff, Nat.reduceLT, Nat.reduceAdd, Nat.reduceMod, Nat.reduceBEq, sid_mod, sid_ne1, sid_ne2, sid_inj, h3a, r3a, h10a, r10a, h11a, h12a, h3b, r3b, h10b, r10b, h11b, h12b, h5b, h6b, h16b, h17b, h18b, wrap_nat hk (by omega), hno]; first | done | rfl | (simp; done)) | assumption | rfl)) (by first | omega | (simp only; omega) | (dsimp only; omega) | (show _ < _; simp; omega))
    · rcases Nat.lt_succ_iff_lt_or_eq.1 hi with hi | rfl
      · exact hall i hi
      · intro e
        rw [(hsub h2).2 e] at he
        simp at he
    · have hx : extB F.testBit false (all.getD k 0) = true := by
        cases hb : extB F.testBit false (all.getD k 0) with
        | true => rfl
        | false =>
          obtain ⟨t, ht, hts⟩ := hmk.2 hb
          obtain ⟨i, hi, rfl⟩ := mem_getD 0 ht
          exact absurd hts (hall i (by omega))
      have hyes : (all.take (k + 1)).filter (extB F.testBit false) = out ++ [all.getD k 0] := by rw [filt_yes hk hx, hout]
      exact again_of ((k + 1, v + 1, u)) (by refine ⟨?_, ?_, ?_, ?_, ?_, ?_, by omega⟩ <;> (first | (simp (maxSteps := 5000000) -dsimp only [gr, Nat.reduceEqDiff, Nat.reduceLT, Nat.reduceAdd, Nat.reduceMod, Nat.reduceBEq, sid_mod, sid_ne1, sid_ne2, sid_inj, h3a, r3a, h10a, r10a, h11a, h12a, h3b, r3b, h10b, r10b, h11b, h12b, h5b, h6b, h16b, h17b, h18b, wrap_nat hk (by omega), hyes, ofN_append, ofN_one]; first | done | rfl | (simp; done)) | assumption | rfl)) (by first | omega | (simp only; omega) | (dsimp only; omega) | (show _ < _; simp; omega))
  · have : k = all.length := by omega
    subst this
    rw [List.take_length]
theorem c_impl_areSetsOf (n : Int) (xs : List Int) : AC Try.prog 113 [int n, ints xs] (.im (bool (decide (1 ≤ n ∧ n ≤ 6 ∧ xs.length ≤ 64 ∧ ∀ x ∈ xs, inSet n x = true)))) := by
  refine AC.go (rs := [.tmp 4]) T_ok mixed Try.func113 rfl rfl rfl (by kernel_rfl) fun hl => ?_
  simp only [lens_cons, lens_nil, and_true, lens2_v, lens2_iL, true_and] at hl
  simp (maxSteps := 5000000) -dsimp only [↓gp, gq, reduceCtorEq, Nat.reduceEqDiff, Nat.reduceLT, Nat.reduceLeDiff, Nat.reduceAdd, Nat.reduceMul, Nat.reduceSub, Nat.reduceBEq, Int.reduceToNat, Int.reduceLE, Int.reduceLT, Int.reduceNeg, Nat.reduceMod, sid_ne1, sid_ne2, sid_inj, sid_mod, gT, TK.isInt, TK.agg, Array.toList]
  refine ⟨fun h1 => ⟨fun h6 => ⟨fun h64 hg => by omega, fun h64 => ?_⟩, fun h6 hg => by omega⟩, fun h1 hg => by omega⟩
  refine loop_of (fun (k : Nat) s => s.sl 0 = int n ∧ s.sl 18 = ints xs ∧ s.sl 19 = int xs.length ∧ s.sl 20 = int k ∧ (k ≤ xs.length ∧ ∀ i, i < k → inSet n (xs.getD i 0) = true)) (fun k => xs.length - k) (0) (by refine ⟨?_, ?_, ?_, ?_, by simp⟩ <;> (first | (simp (maxSteps := 5000000) -dsimp only [gr, Nat.reduceEqDiff, Nat.reduceLT, Nat.reduceAdd, Nat.reduceMod, Nat.reduceBEq, sid_mod, sid_ne1, sid_ne2, sid_inj]; first | done | rfl | (simp; done)) | assumption | rfl)) ?_
  intro k sa ⟨h0a, h18a, h19a, h20a, hIa⟩
  obtain ⟨hk, hall⟩ := hIa
  simp (maxSteps := 5000000) -dsimp only [↓gp, gq, reduceCtorEq, Nat.reduceEqDiff, Nat.reduceLT, Nat.reduceLeDiff, Nat.reduceAdd, Nat.reduceMul, Nat.reduceSub, Nat.reduceBEq, Int.reduceToNat, Int.reduceLE, Int.reduceLT, Int.reduceNeg, Nat.reduceMod, sid_ne1, sid_ne2, sid_inj, sid_mod, gT, TK.isInt, TK.agg, Array.toList, h0a, h18a, h19a, h20a]
  refine ⟨fun h => ⟨h, h, askK_of (c_impl_IsSet _ _) ?_⟩, fun h => ⟨by omega, by omega, by omega, fun x hx => ?_⟩⟩
  · simp (maxSteps := 5000000) -dsimp only [↓gp, gq, reduceCtorEq, Nat.reduceEqDiff, Nat.reduceLT, Nat.reduceLeDiff, Nat.reduceAdd, Nat.reduceMul, Nat.reduceSub, Nat.reduceBEq, Int.reduceToNat, Int.reduceLE, Int.reduceLT, Int.reduceNeg, Nat.reduceMod, sid_ne1, sid_ne2, sid_inj, sid_mod, gT, TK.isInt, TK.agg, Array.toList, h0a, h18a, h19a, h20a]
    refine ⟨fun hs hg => ?_, fun hs => again_of (k + 1) ⟨(by (first | (simp (maxSteps := 5000000) -dsimp only [gr, Nat.reduceEqDiff, Nat.reduceLT, Nat.reduceAdd, Nat.reduceMod, Nat.reduceBEq, sid_mod, sid_ne1, sid_ne2, sid_inj, h0a, h18a, h19a, h20a, wrap_nat h hl]; first | done | rfl | (simp; done)) | assumption | rfl)), (by (first | (simp (maxSteps := 5000000) -dsimp only [gr, Nat.reduceEqDiff, Nat.reduceLT, Nat.reduceAdd, Nat.reduceMod, Nat.reduceBEq, sid_mod, sid_ne1, sid_ne2, sid_inj, h0a, h18a, h19a, h20a, wrap_nat h hl]; first | done | rfl | (simp; done)) | assumption | rfl)), (by (first | (simp (maxSteps := 5000000) -dsimp only [gr, Nat.reduceEqDiff, Nat.reduceLT, Nat.reduceAdd, Nat.reduceMod, Nat.reduceBEq, sid_mod, sid_ne1, sid_ne2, sid_inj, h0a, h18a, h19a, h20a, wrap_nat h hl]; first | done | rfl | (simp; done)) | assumption | rfl)), (by (first | (simp (maxSteps := 5000000) -dsimp only [gr, Nat.reduceEqDiff, Nat.reduceLT, Nat.reduceAdd, Nat.reduceMod, Nat.reduceBEq, sid_mod, sid_ne1, sid_ne2, sid_inj, h0a, h18a, h19a, h20a, wrap_nat h hl]; first | done | rfl | (simp; done)) | assumption | rfl)), ⟨by omega, fun i hi => ?_⟩⟩ (by first | omega | (simp only; omega) | (dsimp only; omega) | (show _ < _; simp; omega))⟩
    · have := hg.2.2.2 _ (getD_mem 0 h)
      rw [this] at hs; cases hs
    · rcases Nat.lt_succ_iff_lt_or_eq.1 hi with hi | rfl
      · exact hall i hi
      · rwa [Bool.not_eq_false'] at hs
  · obtain ⟨i, hi, rfl⟩ := mem_getD 0 hx
    exact hall i (by omega)
/-- A list of sets as a family. -/
noncomputable def inF (xs : List Int) (s : Nat) : Bool := decide ((s : Int) ∈ xs)
noncomputable def hasRow (xs : List Int) (k : Nat) : List Bool := (List.range 64).map fun s => inF (xs.take k) s
theorem hasRow_length (xs : List Int) (k : Nat) : (hasRow xs k).length = 64 := by simp [hasRow]
theorem hasRow_zero (xs : List Int) : List.replicate 64 false = hasRow xs 0 := by
  refine List.ext_getElem (by simp [hasRow]) fun j h1 h2 => ?_
  rw [List.getElem_replicate]
  simp [hasRow, inF]
theorem hasRow_set {xs : List Int} {k : Nat} (h : k < xs.length) (hx : 0 ≤ xs.getD k 0 ∧ xs.getD k 0 < 64) : (hasRow xs k).set (xs.getD k 0).toNat true = hasRow xs (k + 1) := by
  refine List.ext_getElem (by simp [hasRow]) fun j h1 h2 => ?_
  simp only [hasRow, List.getElem_set, List.getElem_map, List.getElem_range]
  have e : inF (xs.take (k + 1)) j = (inF (xs.take k) j || decide ((j : Int) = xs.getD k 0)) := by
    unfold inF
    rw [take_snoc 0 h, ← Bool.decide_or]
    exact decide_eq_decide.2 (by simp only [List.mem_append, List.mem_singleton])
  rw [e]
  by_cases hj : (xs.getD k 0).toNat = j
  · rw [if_pos hj]
    have : (j : Int) = xs.getD k 0 := by omega
    simp only [this, decide_true, Bool.or_true]
  · rw [if_neg hj]
    have : ¬ (j : Int) = xs.getD k 0 := by omega
    simp only [this, decide_false, Bool.or_false]
theorem c_spec_l2Order (xs : List Int) (hx : ∀ x ∈ xs, 0 ≤ x ∧ x < 64) : AC Try.prog 122 [ints xs] (.fr 3 1 (iL (ofN (ordN (inF xs))))) := by
  refine AC.go (rs := [.tmp 2]) T_ok mixed Try.func122 rfl rfl rfl (by kernel_rfl) fun hl => ?_
  simp only [lens_cons, lens_nil, and_true, lens2_v, lens2_iL, true_and] at hl
  simp (maxSteps := 5000000) -dsimp only [↓gp, gq, reduceCtorEq, Nat.reduceEqDiff, Nat.reduceLT, Nat.reduceLeDiff, Nat.reduceAdd, Nat.reduceMul, Nat.reduceSub, Nat.reduceBEq, Int.reduceToNat, Int.reduceLE, Int.reduceLT, Int.reduceNeg, Nat.reduceMod, sid_ne1, sid_ne2, sid_inj, sid_mod, gT, TK.isInt, TK.agg, Array.toList]
  refine ⟨by decide, ?_⟩
  refine loop_of (fun (za : Nat × Nat) s => match za with | (k, v) => s.sl 0 = ints xs ∧ s.sl 3 = .own 8 v ∧ s.rw 8 = ⟨v, .sli 4 1 false (bL (hasRow xs k))⟩ ∧ s.sl 4 = int k ∧ (k ≤ xs.length)) (fun (k, v) => xs.length - k) ((0, 1)) (by refine ⟨?_, ?_, ?_, ?_, by simp⟩ <;> (first | (simp (maxSteps := 5000000) -dsimp only [gr, Nat.reduceEqDiff, Nat.reduceLT, Nat.reduceAdd, Nat.reduceMod, Nat.reduceBEq, sid_mod, sid_ne1, sid_ne2, sid_inj, bL_replicate, hasRow_zero, Int.reduceToNat]; first | done | rfl | (simp; done)) | assumption | rfl)) ?_
  intro (k, v) sa ⟨h0a, h3a, r8a, h4a, hIa⟩
  simp (maxSteps := 5000000) -dsimp only [↓gp, gq, reduceCtorEq, Nat.reduceEqDiff, Nat.reduceLT, Nat.reduceLeDiff, Nat.reduceAdd, Nat.reduceMul, Nat.reduceSub, Nat.reduceBEq, Int.reduceToNat, Int.reduceLE, Int.reduceLT, Int.reduceNeg, Nat.reduceMod, sid_ne1, sid_ne2, sid_inj, sid_mod, gT, TK.isInt, TK.agg, Array.toList, h0a, h3a, r8a, h4a, hasRow_length]
  refine ⟨fun hk => ?_, fun hk => ?_⟩
  · have hx1 := hx _ (getD_mem 0 hk)
    refine ⟨hk, hk, by omega, by omega, by omega, ?_⟩
    exact again_of ((k + 1, v)) (by refine ⟨?_, ?_, ?_, ?_, by omega⟩ <;> (first | (simp (maxSteps := 5000000) -dsimp only [gr, Nat.reduceEqDiff, Nat.reduceLT, Nat.reduceAdd, Nat.reduceMod, Nat.reduceBEq, sid_mod, sid_ne1, sid_ne2, sid_inj, h0a, h3a, r8a, h4a, wrap_nat hk hl, hasRow_set hk hx1]; first | done | rfl | (simp; done)) | assumption | rfl)) (by first | omega | (simp only; omega) | (dsimp only; omega) | (show _ < _; simp; omega))
  · have : k = xs.length := by omega
    subst this
    have hall : ∀ s, s < 64 → (hasRow xs xs.length).getD s false = inF xs s := fun s hs => by
      rw [getD_at false (by rw [hasRow_length]; exact hs)]
      simp [hasRow]
    have hrl := hasRow_length xs xs.length
    generalize hasRow xs xs.length = row at *
    refine loop_of (fun (zb : Nat × Nat × Nat) s => match zb with | (k, v, u) => s.sl 3 = .own 8 u ∧ s.rw 8 = ⟨u, .sli 4 1 false (bL row)⟩ ∧ s.sl 5 = .own 21 v ∧ s.rw 21 = ⟨v, .sli 3 1 false (iL (ofN (ordP (inF xs) k 0)))⟩ ∧ s.sl 6 = int k ∧ (k ≤ 7)) (fun (k, v, u) => 7 - k) ((0, (sa.rw 21).ver + 1, v)) (by refine ⟨?_, ?_, ?_, ?_, ?_, by simp⟩ <;> (first | (simp (maxSteps := 5000000) -dsimp only [gr, Nat.reduceEqDiff, Nat.reduceLT, Nat.reduceAdd, Nat.reduceMod, Nat.reduceBEq, sid_mod, sid_ne1, sid_ne2, sid_inj, h0a, h3a, r8a, h4a]; first | done | rfl | (simp; done)) | assumption | rfl)) ?_
    intro (k, v, u) sb ⟨h3b, r8b, h5b, r21b, h6b, hIb⟩
    simp (maxSteps := 5000000) -dsimp only [↓gp, gq, reduceCtorEq, Nat.reduceEqDiff, Nat.reduceLT, Nat.reduceLeDiff, Nat.reduceAdd, Nat.reduceMul, Nat.reduceSub, Nat.reduceBEq, Int.reduceToNat, Int.reduceLE, Int.reduceLT, Int.reduceNeg, Nat.reduceMod, sid_ne1, sid_ne2, sid_inj, sid_mod, gT, TK.isInt, TK.agg, Array.toList, h3b, r8b, h5b, r21b, h6b]
    refine ⟨fun hk => ?_, fun hk => ?_⟩
    · refine loop_of (fun (zc : Nat × Nat) s => match zc with | (m, v) => s.sl 3 = .own 8 u ∧ s.rw 8 = ⟨u, .sli 4 1 false (bL row)⟩ ∧ s.sl 5 = .own 21 v ∧ s.rw 21 = ⟨v, .sli 3 1 false (iL (ofN (ordP (inF xs) k m)))⟩ ∧ s.sl 6 = int k ∧ s.sl 7 = int m ∧ (m ≤ 64)) (fun (m, v) => 64 - m) ((0, v)) (by refine ⟨?_, ?_, ?_, ?_, ?_, ?_, by simp⟩ <;> (first | (simp (maxSteps := 5000000) -dsimp only [gr, Nat.reduceEqDiff, Nat.reduceLT, Nat.reduceAdd, Nat.reduceMod, Nat.reduceBEq, sid_mod, sid_ne1, sid_ne2, sid_inj, h3b, r8b, h5b, r21b, h6b]; first | done | rfl | (simp; done)) | assumption | rfl)) ?_
      intro (m, v) sc ⟨h3c, r8c, h5c, r21c, h6c, h7c, hIc⟩
      simp (maxSteps := 5000000) -dsimp only [↓gp, gq, reduceCtorEq, Nat.reduceEqDiff, Nat.reduceLT, Nat.reduceLeDiff, Nat.reduceAdd, Nat.reduceMul, Nat.reduceSub, Nat.reduceBEq, Int.reduceToNat, Int.reduceLE, Int.reduceLT, Int.reduceNeg, Nat.reduceMod, sid_ne1, sid_ne2, sid_inj, sid_mod, gT, TK.isInt, TK.agg, Array.toList, h3c, r8c, h5c, r21c, h6c, h7c, hrl]
      have hlen := ordP_len (inF xs) k m
      refine ⟨fun hm => ⟨by omega, by omega, ?_⟩, fun hm => ?_⟩
      · have hm : m < 64 := by omega
        rw [hall m hm]
        refine ⟨fun hf => askK_of (c_spec_l2Sizei (by omega) (by omega)) ?_, fun hf => ?_⟩
        · simp (maxSteps := 5000000) -dsimp only [↓gp, gq, reduceCtorEq, Nat.reduceEqDiff, Nat.reduceLT, Nat.reduceLeDiff, Nat.reduceAdd, Nat.reduceMul, Nat.reduceSub, Nat.reduceBEq, Int.reduceToNat, Int.reduceLE, Int.reduceLT, Int.reduceNeg, Nat.reduceMod, sid_ne1, sid_ne2, sid_inj, sid_mod, gT, TK.isInt, TK.agg, Array.toList, h3c, r8c, h5c, r21c, h6c, h7c, Int.toNat_natCast]
          refine ⟨fun hp => ?_, fun hp => ?_⟩
          · have hy : ordP (inF xs) k (m + 1) = ordP (inF xs) k m ++ [m] := ordP_yes (by rw [hf]; simp at hp ⊢; omega)
            refine ⟨by rw [ofN_length]; omega, ?_⟩
            exact again_of ((m + 1, v + 1)) (by refine ⟨?_, ?_, ?_, ?_, ?_, ?_, by omega⟩ <;> (first | (simp (maxSteps := 5000000) -dsimp only [gr, Nat.reduceEqDiff, Nat.reduceLT, Nat.reduceAdd, Nat.reduceMod, Nat.reduceBEq, sid_mod, sid_ne1, sid_ne2, sid_inj, h3c, r8c, h5c, r21c, h6c, h7c, wrap_nat hm (by omega), hy, ofN_append, ofN_one]; first | done | rfl | (simp; done)) | assumption | rfl)) (by first | omega | (simp only; omega) | (dsimp only; omega) | (show _ < _; simp; omega))
          · have hy : ordP (inF xs) k (m + 1) = ordP (inF xs) k m := ordP_no (by rw [hf]; simp at hp ⊢; omega)
            exact again_of ((m + 1, v)) (by refine ⟨?_, ?_, ?_, ?_, ?_, ?_, by omega⟩ <;> (first | (simp (maxSteps := 5000000) -dsimp only [gr, Nat.reduceEqDiff, Nat.reduceLT, Nat.reduceAdd, Nat.reduceMod, Nat.reduceBEq, sid_mod, sid_ne1, sid_ne2, sid_inj, h3c, r8c, h5c, r21c, h6c, h7c, wrap_nat hm (by omega), hy]; first | done | rfl | (simp; done)) | assumption | rfl)) (by first | omega | (simp only; omega) | (dsimp only; omega) | (show _ < _; simp; omega))
        · have hy : ordP (inF xs) k (m + 1) = ordP (inF xs) k m := ordP_no (by rw [hf]; rfl)
          exact again_of ((m + 1, v)) (by refine ⟨?_, ?_, ?_, ?_, ?_, ?_, by omega⟩ <;> (first | (simp (maxSteps := 5000000) -dsimp only [gr, Nat.reduceEqDiff, Nat.reduceLT, Nat.reduceAdd, Nat.reduceMod, Nat.reduceBEq, sid_mod, sid_ne1, sid_ne2, sid_inj, h3c, r8c, h5c, r21c, h6c, h7c, wrap_nat hm (by omega), hy]; first | done | rfl | (simp; done)) | assumption | rfl)) (by first | omega | (simp only; omega) | (dsimp only; omega) | (show _ < _; simp; omega))
      · have : m = 64 := by omega
        subst this
        have hk : k < 7 := by omega
        exact again_of ((k + 1, v, u)) (by refine ⟨?_, ?_, ?_, ?_, ?_, by omega⟩ <;> (first | (simp (maxSteps := 5000000) -dsimp only [gr, Nat.reduceEqDiff, Nat.reduceLT, Nat.reduceAdd, Nat.reduceMod, Nat.reduceBEq, sid_mod, sid_ne1, sid_ne2, sid_inj, h3b, r8b, h5b, r21b, h6b, h3c, r8c, h5c, r21c, h6c, h7c, wrap_nat hk (by omega), ordP_next]; first | done | rfl | (simp; done)) | assumption | rfl)) (by first | omega | (simp only; omega) | (dsimp only; omega) | (show _ < _; simp; omega))
    · have : k = 7 := by omega
      subst this
      rw [ordP_all]
theorem upto_succ {P : Nat → Prop} {j : Nat} : (∀ i, i < j + 1 → P i) ↔ (∀ i, i < j → P i) ∧ P j :=
  ⟨fun h => ⟨fun i hi => h i (by omega), h j (by omega)⟩, fun h i hi => by
    rcases Nat.lt_succ_iff_lt_or_eq.1 hi with hi | rfl
    · exact h.1 i hi
    · exact h.2⟩
theorem c_spec_l2Extreme (g : Bool) (xs : List Int) (hx : ∀ x ∈ xs, 0 ≤ x ∧ x < 64) : AC Try.prog 112 [ints xs, bool g] (.fr 3 1 (iL (ofN (extN (inF xs) g)))) := by
  refine AC.go (rs := [.tmp 4]) T_ok mixed Try.func112 rfl rfl rfl (by kernel_rfl) fun hl => ?_
  simp only [lens_cons, lens_nil, and_true, lens2_v, lens2_iL, true_and] at hl
  simp (maxSteps := 5000000) -dsimp only [↓gp, gq, reduceCtorEq, Nat.reduceEqDiff, Nat.reduceLT, Nat.reduceLeDiff, Nat.reduceAdd, Nat.reduceMul, Nat.reduceSub, Nat.reduceBEq, Int.reduceToNat, Int.reduceLE, Int.reduceLT, Int.reduceNeg, Nat.reduceMod, sid_ne1, sid_ne2, sid_inj, sid_mod, gT, TK.isInt, TK.agg, Array.toList]
  refine askK_of (c_spec_l2Order xs hx) ?_
  simp (maxSteps := 5000000) -dsimp only [↓gp, gq, reduceCtorEq, Nat.reduceEqDiff, Nat.reduceLT, Nat.reduceLeDiff, Nat.reduceAdd, Nat.reduceMul, Nat.reduceSub, Nat.reduceBEq, Int.reduceToNat, Int.reduceLE, Int.reduceLT, Int.reduceNeg, Nat.reduceMod, sid_ne1, sid_ne2, sid_inj, sid_mod, gT, TK.isInt, TK.agg, Array.toList]
  have hfull := ordN_len (inF xs)
  have hmemf : ∀ t, t ∈ ordN (inF xs) ↔ t < 64 ∧ inF xs t = true := fun t => mem_ordN
  unfold extN
  have hext : ∀ s, s < 64 → (extB (inF xs) g s = true ↔ ∀ t, t ∈ ordN (inF xs) → (if g = true then s &&& t = s else t &&& s = t) → t = s) := fun s hs => by
    cases g with
    | true => rw [extB_iff']; simp only [if_true]; exact ⟨fun h t ht => h t ((hmemf t).1 ht).1 ((hmemf t).1 ht).2, fun h t h1 h2 => h t ((hmemf t).2 ⟨h1, h2⟩)⟩
    | false => rw [extB_iff]; simp only [Bool.false_eq_true, if_false]; exact ⟨fun h t ht => h t ((hmemf t).1 ht).1 ((hmemf t).1 ht).2, fun h t h1 h2 => h t ((hmemf t).2 ⟨h1, h2⟩)⟩
  generalize ordN (inF xs) = all at *
  have hmem : ∀ k, k < all.length → all.getD k 0 < 64 := fun k hk => ((hmemf _).1 (getD_mem 0 hk)).1
  refine loop_of (fun (za : Nat × Nat × Nat) s => match za with | (k, v, u) => s.sl 1 = bool g ∧ s.sl 5 = .own 13 u ∧ s.rw 13 = ⟨u, .sli 3 1 false (iL (ofN all))⟩ ∧ s.sl 6 = .own 14 v ∧ s.rw 14 = ⟨v, .sli 3 1 false (iL (ofN ((all.take k).filter (extB (inF xs) g))))⟩ ∧ s.sl 7 = int k ∧ (k ≤ all.length)) (fun (k, v, u) => all.length - k) ((0, 1, 1)) (by refine ⟨?_, ?_, ?_, ?_, ?_, ?_, by simp⟩ <;> (first | (simp (maxSteps := 5000000) -dsimp only [gr, Nat.reduceEqDiff, Nat.reduceLT, Nat.reduceAdd, Nat.reduceMod, Nat.reduceBEq, sid_mod, sid_ne1, sid_ne2, sid_inj]; first | done | rfl | (simp; done)) | assumption | rfl)) ?_
  intro (k, v, u) sa ⟨h1a, h5a, r13a, h6a, r14a, h7a, hIa⟩
  simp (maxSteps := 5000000) -dsimp only [↓gp, gq, reduceCtorEq, Nat.reduceEqDiff, Nat.reduceLT, Nat.reduceLeDiff, Nat.reduceAdd, Nat.reduceMul, Nat.reduceSub, Nat.reduceBEq, Int.reduceToNat, Int.reduceLE, Int.reduceLT, Int.reduceNeg, Nat.reduceMod, sid_ne1, sid_ne2, sid_inj, sid_mod, gT, TK.isInt, TK.agg, Array.toList, h1a, h5a, r13a, h6a, r14a, h7a, ofN_length]
  have hol : ((all.take k).filter (extB (inF xs) g)).length ≤ k := Nat.le_trans filt_len (by simp; omega)
  refine ⟨fun hk => ?_, fun hk => ?_⟩
  · have hs := hmem k hk
    refine loop_of (fun (zb : Nat × Bool) s => match zb with | (j, fine) => s.sl 1 = bool g ∧ s.sl 5 = .own 13 u ∧ s.rw 13 = ⟨u, .sli 3 1 false (iL (ofN all))⟩ ∧ s.sl 6 = .own 14 v ∧ s.rw 14 = ⟨v, .sli 3 1 false (iL (ofN ((all.take k).filter (extB (inF xs) g))))⟩ ∧ s.sl 7 = int k ∧ s.sl 8 = bool fine ∧ s.sl 9 = int j ∧ (j ≤ all.length ∧ (fine = true ↔ ∀ i, i < j → (if g = true then all.getD k 0 &&& all.getD i 0 = all.getD k 0 else all.getD i 0 &&& all.getD k 0 = all.getD i 0) → all.getD i 0 = all.getD k 0))) (fun (j, fine) => all.length - j) ((0, true)) (by refine ⟨?_, ?_, ?_, ?_, ?_, ?_, ?_, ?_, by simp⟩ <;> (first | (simp (maxSteps := 5000000) -dsimp only [gr, Nat.reduceEqDiff, Nat.reduceLT, Nat.reduceAdd, Nat.reduceMod, Nat.reduceBEq, sid_mod, sid_ne1, sid_ne2, sid_inj, h1a, h5a, r13a, h6a, r14a, h7a]; first | done | rfl | (simp; done)) | assumption | rfl)) ?_
    intro (j, fine) sb ⟨h1b, h5b, r13b, h6b, r14b, h7b, h8b, h9b, hIb⟩
    obtain ⟨hj, hfine⟩ := hIb
    have ek : (ofN all).getD k 0 = ((all.getD k 0 : Nat) : Int) := ofN_getD hk
    have ej : j < all.length → (ofN all).getD j 0 = ((all.getD j 0 : Nat) : Int) := fun h => ofN_getD h
    have eand : j < all.length → iand .i64 ((ofN all).getD k 0) ((ofN all).getD j 0) = ((all.getD k 0 &&& all.getD j 0 : Nat) : Int) := fun h => by
      have := hmem j h
      rw [ek, ej h, iand_nat (by omega) (by omega)]
    have hend : j = all.length → (fine = true ↔ extB (inF xs) g (all.getD k 0) = true) := fun h => by
      rw [hfine, hext _ hs]
      exact ⟨fun h2 t ht => by obtain ⟨i, hi, rfl⟩ := mem_getD 0 ht; exact h2 i (by omega), fun h2 i hi => h2 _ (getD_mem 0 (by omega))⟩
    have hend2 : j = all.length → fine = false → extB (inF xs) g (all.getD k 0) = false := fun h hf => by
      cases hb : extB (inF xs) g (all.getD k 0) with
      | false => rfl
      | true => rw [(hend h).2 hb] at hf; cases hf
    have pfT : (if g = true then all.getD k 0 &&& all.getD j 0 = all.getD k 0 else all.getD j 0 &&& all.getD k 0 = all.getD j 0) → all.getD j 0 ≠ all.getD k 0 → (false = true ↔ ∀ i, i < j + 1 → (if g = true then all.getD k 0 &&& all.getD i 0 = all.getD k 0 else all.getD i 0 &&& all.getD k 0 = all.getD i 0) → all.getD i 0 = all.getD k 0) := fun hr hne =>
      ⟨fun h => (by cases h), fun h => absurd (h j (by omega) hr) hne⟩
    have pfF : (¬ (if g = true then all.getD k 0 &&& all.getD j 0 = all.getD k 0 else all.getD j 0 &&& all.getD k 0 = all.getD j 0) ∨ all.getD j 0 = all.getD k 0) → (fine = true ↔ ∀ i, i < j + 1 → (if g = true then all.getD k 0 &&& all.getD i 0 = all.getD k 0 else all.getD i 0 &&& all.getD k 0 = all.getD i 0) → all.getD i 0 = all.getD k 0) := fun hr => by
      rw [hfine]
      constructor
      · intro h i hi
        rcases Nat.lt_succ_iff_lt_or_eq.1 hi with hi | rfl
        · exact h i hi
        · exact fun h2 => hr.elim (fun h3 => absurd h2 h3) id
      · intro h i hi; exact h i (by omega)
    cases g with
    | true =>
      simp (maxSteps := 5000000) -dsimp only [↓gp, gq, reduceCtorEq, Nat.reduceEqDiff, Nat.reduceLT, Nat.reduceLeDiff, Nat.reduceAdd, Nat.reduceMul, Nat.reduceSub, Nat.reduceBEq, Int.reduceToNat, Int.reduceLE, Int.reduceLT, Int.reduceNeg, Nat.reduceMod, sid_ne1, sid_ne2, sid_inj, sid_mod, gT, TK.isInt, TK.agg, Array.toList, h1b, h5b, r13b, h6b, r14b, h7b, h8b, h9b, ofN_length]
      refine ⟨fun h2 => ⟨hk, hk, h2, h2, fun hne => ⟨fun he => again_of ((j + 1, fine)) ⟨(by (first | (simp (maxSteps := 5000000) -dsimp only [gr, Nat.reduceEqDiff, Nat.reduceLT, Nat.reduceAdd, Nat.reduceMod, Nat.reduceBEq, sid_mod, sid_ne1, sid_ne2, sid_inj, h1b, h5b, r13b, h6b, r14b, h7b, h8b, h9b, wrap_nat h2 (by omega)]; first | done | rfl | (simp; done)) | assumption | rfl)), (by (first | (simp (maxSteps := 5000000) -dsimp only [gr, Nat.reduceEqDiff, Nat.reduceLT, Nat.reduceAdd, Nat.reduceMod, Nat.reduceBEq, sid_mod, sid_ne1, sid_ne2, sid_inj, h1b, h5b, r13b, h6b, r14b, h7b, h8b, h9b, wrap_nat h2 (by omega)]; first | done | rfl | (simp; done)) | assumption | rfl)), (by (first | (simp (maxSteps := 5000000) -dsimp only [gr, Nat.reduceEqDiff, Nat.reduceLT, Nat.reduceAdd, Nat.reduceMod, Nat.reduceBEq, sid_mod, sid_ne1, sid_ne2, sid_inj, h1b, h5b, r13b, h6b, r14b, h7b, h8b, h9b, wrap_nat h2 (by omega)]; first | done | rfl | (simp; done)) | assumption | rfl)), (by (first | (simp (maxSteps := 5000000) -dsimp only [gr, Nat.reduceEqDiff, Nat.reduceLT, Nat.reduceAdd, Nat.reduceMod, Nat.reduceBEq, sid_mod, sid_ne1, sid_ne2, sid_inj, h1b, h5b, r13b, h6b, r14b, h7b, h8b, h9b, wrap_nat h2 (by omega)]; first | done | rfl | (simp; done)) | assumption | rfl)), (by (first | (simp (maxSteps := 5000000) -dsimp only [gr, Nat.reduceEqDiff, Nat.reduceLT, Nat.reduceAdd, Nat.reduceMod, Nat.reduceBEq, sid_mod, sid_ne1, sid_ne2, sid_inj, h1b, h5b, r13b, h6b, r14b, h7b, h8b, h9b, wrap_nat h2 (by omega)]; first | done | rfl | (simp; done)) | assumption | rfl)), (by (first | (simp (maxSteps := 5000000) -dsimp only [gr, Nat.reduceEqDiff, Nat.reduceLT, Nat.reduceAdd, Nat.reduceMod, Nat.reduceBEq, sid_mod, sid_ne1, sid_ne2, sid_inj, h1b, h5b, r13b, h6b, r14b, h7b, h8b, h9b, wrap_nat h2 (by omega)]; first | done | rfl | (simp; done)) | assumption | rfl)), (by (first | (simp (maxSteps := 5000000) -dsimp only [gr, Nat.reduceEqDiff, Nat.reduceLT, Nat.reduceAdd, Nat.reduceMod, Nat.reduceBEq, sid_mod, sid_ne1, sid_ne2, sid_inj, h1b, h5b, r13b, h6b, r14b, h7b, h8b, h9b, wrap_nat h2 (by omega)]; first | done | rfl | (simp; done)) | assumption | rfl)), (by (first | (simp (maxSteps := 5000000) -dsimp only [gr, Nat.reduceEqDiff, Nat.reduceLT, Nat.reduceAdd, Nat.reduceMod, Nat.reduceBEq, sid_mod, sid_ne1, sid_ne2, sid_inj, h1b, h5b, r13b, h6b, r14b, h7b, h8b, h9b, wrap_nat h2 (by omega)]; first | done | rfl | (simp; done)) | assumption | rfl)), ⟨by omega, pfF (.inl ?_)⟩⟩ (by first | omega | (simp only; omega) | (dsimp only; omega) | (show _ < _; simp; omega)), fun he => again_of ((j + 1, false)) ⟨(by (first | (simp (maxSteps := 5000000) -dsimp only [gr, Nat.reduceEqDiff, Nat.reduceLT, Nat.reduceAdd, Nat.reduceMod, Nat.reduceBEq, sid_mod, sid_ne1, sid_ne2, sid_inj, h1b, h5b, r13b, h6b, r14b, h7b, h8b, h9b, wrap_nat h2 (by omega)]; first | done | rfl | (simp; done)) | assumption | rfl)), (by (first | (simp (maxSteps := 5000000) -dsimp only [gr, Nat.reduceEqDiff, Nat.reduceLT, Nat.reduceAdd, Nat.reduceMod, Nat.reduceBEq, sid_mod, sid_ne1, sid_ne2, sid_inj, h1b, h5b, r13b, h6b, r14b, h7b, h8b, h9b, wrap_nat h2 (by omega)]; first | done | rfl | (simp; done)) | assumption | rfl)), (by (first | (simp (maxSteps := 5000000) -dsimp only [gr, Nat.reduceEqDiff, Nat.reduceLT, Nat.reduceAdd, Nat.reduceMod, Nat.reduceBEq, sid_mod, sid_ne1, sid_ne2, sid_inj, h1b, h5b, r13b, h6b, r14b, h7b, h8b, h9b, wrap_nat h2 (by omega)]; first | done | rfl | (simp; done)) | assumption | rfl)), (by (first | (simp (maxSteps := 5000000) -dsimp only [gr, Nat.reduceEqDiff, Nat.reduceLT, Nat.reduceAdd, Nat.reduceMod, Nat.reduceBEq, sid_mod, sid_ne1, sid_ne2, sid_inj, h1b, h5b, r13b, h6b, r14b, h7b, h8b, h9b, wrap_nat h2 (by omega)]; first | done | rfl | (simp; done)) | assumption | rfl)), (by (first | (simp (maxSteps := 5000000) -dsimp only [gr, Nat.reduceEqDiff, Nat.reduceLT, Nat.reduceAdd, Nat.reduceMod, Nat.reduceBEq, sid_mod, sid_ne1, sid_ne2, sid_inj, h1b, h5b, r13b, h6b, r14b, h7b, h8b, h9b, wrap_nat h2 (by omega)]; first | done | rfl | (simp; done)) | assumption | rfl)), (by (first | (simp (maxSteps := 5000000) -dsimp only [gr, Nat.reduceEqDiff, Nat.reduceLT, Nat.reduceAdd, Nat.reduceMod, Nat.reduceBEq, sid_mod, sid_ne1, sid_ne2, sid_inj, h1b, h5b, r13b, h6b, r14b, h7b, h8b, h9b, wrap_nat h2 (by omega)]; first | done | rfl | (simp; done)) | assumption | rfl)), (by (first | (simp (maxSteps := 5000000) -dsimp only [gr, Nat.reduceEqDiff, Nat.reduceLT, Nat.reduceAdd, Nat.reduceMod, Nat.reduceBEq, sid_mod, sid_ne1, sid_ne2, sid_inj, h1b, h5b, r13b, h6b, r14b, h7b, h8b, h9b, wrap_nat h2 (by omega)]; first | done | rfl | (simp; done)) | assumption | rfl)), (by (first | (simp (maxSteps := 5000000) -dsimp only [gr, Nat.reduceEqDiff, Nat.reduceLT, Nat.reduceAdd, Nat.reduceMod, Nat.reduceBEq, sid_mod, sid_ne1, sid_ne2, sid_inj, h1b, h5b, r13b, h6b, r14b, h7b, h8b, h9b, wrap_nat h2 (by omega)]; first | done | rfl | (simp; done)) | assumption | rfl)), ⟨by omega, pfT ?_ ?_⟩⟩ (by first | omega | (simp only; omega) | (dsimp only; omega) | (show _ < _; simp; omega))⟩, fun hne => again_of ((j + 1, fine)) ⟨(by (first | (simp (maxSteps := 5000000) -dsimp only [gr, Nat.reduceEqDiff, Nat.reduceLT, Nat.reduceAdd, Nat.reduceMod, Nat.reduceBEq, sid_mod, sid_ne1, sid_ne2, sid_inj, h1b, h5b, r13b, h6b, r14b, h7b, h8b, h9b, wrap_nat h2 (by omega)]; first | done | rfl | (simp; done)) | assumption | rfl)), (by (first | (simp (maxSteps := 5000000) -dsimp only [gr, Nat.reduceEqDiff, Nat.reduceLT, Nat.reduceAdd, Nat.reduceMod, Nat.reduceBEq, sid_mod, sid_ne1, sid_ne2, sid_inj, h1b, h5b, r13b, h6b, r14b, h7b, h8b, h9b, wrap_nat h2 (by omega)]; first | done | rfl | (simp; done)) | assumption | rfl)), (by (first | (simp (maxSteps := 5000000) -dsimp only [gr, Nat.reduceEqDiff, Nat.reduceLT, Nat.reduceAdd, Nat.reduceMod, Nat.reduceBEq, sid_mod, sid_ne1, sid_ne2, sid_inj, h1b, h5b, r13b, h6b, r14b, h7b, h8b, h9b, wrap_nat h2 (by omega)]; first | done | rfl | (simp; done)) | assumption | rfl)), (by (first | (simp (maxSteps := 5000000) -dsimp only [gr, Nat.reduceEqDiff, Nat.reduceLT, Nat.reduceAdd, Nat.reduceMod, Nat.reduceBEq, sid_mod, sid_ne1, sid_ne2, sid_inj, h1b, h5b, r13b, h6b, r14b, h7b, h8b, h9b, wrap_nat h2 (by omega)]; first | done | rfl | (simp; done)) | assumption | rfl)), (by (first | (simp (maxSteps := 5000000) -dsimp only [gr, Nat.reduceEqDiff, Nat.reduceLT, Nat.reduceAdd, Nat.reduceMod, Nat.reduceBEq, sid_mod, sid_ne1, sid_ne2, sid_inj, h1b, h5b, r13b, h6b, r14b, h7b, h8b, h9b, wrap_nat h2 (by omega)]; first | done | rfl | (simp; done)) | assumption | rfl)), (by (first | (simp (maxSteps := 5000000) -dsimp only [gr, Nat.reduceEqDiff, Nat.reduceLT, Nat.reduceAdd, Nat.reduceMod, Nat.reduceBEq, sid_mod, sid_ne1, sid_ne2, sid_inj, h1b, h5b, r13b, h6b, r14b, h7b, h8b, h9b, wrap_nat h2 (by omega)]; first | done | rfl | (simp; done)) | assumption | rfl)), (by (first | (simp (maxSteps := 5000000) -dsimp only [gr, Nat.reduceEqDiff, Nat.reduceLT, Nat.reduceAdd, Nat.reduceMod, Nat.reduceBEq, sid_mod, sid_ne1, sid_ne2, sid_inj, h1b, h5b, r13b, h6b, r14b, h7b, h8b, h9b, wrap_nat h2 (by omega)]; first | done | rfl | (simp; done)) | assumption | rfl)), (by (first | (simp (maxSteps := 5000000) -dsimp only [gr, Nat.reduceEqDiff, Nat.reduceLT, Nat.reduceAdd, Nat.reduceMod, Nat.reduceBEq, sid_mod, sid_ne1, sid_ne2, sid_inj, h1b, h5b, r13b, h6b, r14b, h7b, h8b, h9b, wrap_nat h2 (by omega)]; first | done | rfl | (simp; done)) | assumption | rfl)), ⟨by omega, pfF (.inr ?_)⟩⟩ (by first | omega | (simp only; omega) | (dsimp only; omega) | (show _ < _; simp; omega))⟩, fun h2 => ?_⟩
      · rw [eand h2, ek] at he
        simp only [if_true]
        intro e; rw [e] at he; simp at he
      · rw [eand h2, ek] at he
        have := beq_iff_eq.1 he
        simp only [if_true]; omega
      · rw [ek, ej h2] at hne
        intro e; rw [e] at hne; simp at hne
      · rw [ek, ej h2] at hne
        have := bne_eq_false_iff_eq.1 hne
        omega
      · refine ⟨fun hf => ⟨hk, hk, by omega, ?_⟩, fun hf => ?_⟩
        · have hx := (hend (by omega)).1 hf
          exact again_of ((k + 1, v + 1, u)) (by refine ⟨?_, ?_, ?_, ?_, ?_, ?_, by omega⟩ <;> (first | (simp (maxSteps := 5000000) -dsimp only [gr, Nat.reduceEqDiff, Nat.reduceLT, Nat.reduceAdd, Nat.reduceMod, Nat.reduceBEq, sid_mod, sid_ne1, sid_ne2, sid_inj, h1a, h5a, r13a, h6a, r14a, h7a, h1b, h5b, r13b, h6b, r14b, h7b, h8b, h9b, wrap_nat hk (by omega), filt_yes hk hx, ofN_append, ofN_one, ek]; first | done | rfl | (simp; done)) | assumption | rfl)) (by first | omega | (simp only; omega) | (dsimp only; omega) | (show _ < _; simp; omega))
        · have hx := hend2 (by omega) hf
          exact again_of ((k + 1, v, u)) (by refine ⟨?_, ?_, ?_, ?_, ?_, ?_, by omega⟩ <;> (first | (simp (maxSteps := 5000000) -dsimp only [gr, Nat.reduceEqDiff, Nat.reduceLT, Nat.reduceAdd, Nat.reduceMod, Nat.reduceBEq, sid_mod, sid_ne1, sid_ne2, sid_inj, h1a, h5a, r13a, h6a, r14a, h7a, h1b, h5b, r13b, h6b, r14b, h7b, h8b, h9b, wrap_nat hk (by omega), filt_no hk hx]; first | done | rfl | (simp; done)) | assumption | rfl)) (by first | omega | (simp only; omega) | (dsimp only; omega) | (show _ < _; simp; omega))
    | false =>
      simp (maxSteps := 5000000) -dsimp only [↓gp, gq, reduceCtorEq, Nat.reduceEqDiff, Nat.reduceLT, Nat.reduceLeDiff, Nat.reduceAdd, Nat.reduceMul, Nat.reduceSub, Nat.reduceBEq, Int.reduceToNat, Int.reduceLE, Int.reduceLT, Int.reduceNeg, Nat.reduceMod, sid_ne1, sid_ne2, sid_inj, sid_mod, gT, TK.isInt, TK.agg, Array.toList, h1b, h5b, r13b, h6b, r14b, h7b, h8b, h9b, ofN_length]
      refine ⟨fun h2 => ⟨hk, hk, h2, h2, fun hne => ⟨fun he => again_of ((j + 1, false)) ⟨(by (first | (simp (maxSteps := 5000000) -dsimp only [gr, Nat.reduceEqDiff, Nat.reduceLT, Nat.reduceAdd, Nat.reduceMod, Nat.reduceBEq, sid_mod, sid_ne1, sid_ne2, sid_inj, h1b, h5b, r13b, h6b, r14b, h7b, h8b, h9b, wrap_nat h2 (by omega)]; first | done | rfl | (simp; done)) | assumption | rfl)), (by (first | (simp (maxSteps := 5000000) -dsimp only [gr, Nat.reduceEqDiff, Nat.reduceLT, Nat.reduceAdd, Nat.reduceMod, Nat.reduceBEq, sid_mod, sid_ne1, sid_ne2, sid_inj, h1b, h5b, r13b, h6b, r14b, h7b, h8b, h9b, wrap_nat h2 (by omega)]; first | done | rfl | (simp; done)) | assumption | rfl)), (by (first | (simp (maxSteps := 5000000) -dsimp only [gr, Nat.reduceEqDiff, Nat.reduceLT, Nat.reduceAdd, Nat.reduceMod, Nat.reduceBEq, sid_mod, sid_ne1, sid_ne2, sid_inj, h1b, h5b, r13b, h6b, r14b, h7b, h8b, h9b, wrap_nat h2 (by omega)]; first | done | rfl | (simp; done)) | assumption | rfl)), (by (first | (simp (maxSteps := 5000000) -dsimp only [gr, Nat.reduceEqDiff, Nat.reduceLT, Nat.reduceAdd, Nat.reduceMod, Nat.reduceBEq, sid_mod, sid_ne1, sid_ne2, sid_inj, h1b, h5b, r13b, h6b, r14b, h7b, h8b, h9b, wrap_nat h2 (by omega)]; first | done | rfl | (simp; done)) | assumption | rfl)), (by (first | (simp (maxSteps := 5000000) -dsimp only [gr, Nat.reduceEqDiff, Nat.reduceLT, Nat.reduceAdd, Nat.reduceMod, Nat.reduceBEq, sid_mod, sid_ne1, sid_ne2, sid_inj, h1b, h5b, r13b, h6b, r14b, h7b, h8b, h9b, wrap_nat h2 (by omega)]; first | done | rfl | (simp; done)) | assumption | rfl)), (by (first | (simp (maxSteps := 5000000) -dsimp only [gr, Nat.reduceEqDiff, Nat.reduceLT, Nat.reduceAdd, Nat.reduceMod, Nat.reduceBEq, sid_mod, sid_ne1, sid_ne2, sid_inj, h1b, h5b, r13b, h6b, r14b, h7b, h8b, h9b, wrap_nat h2 (by omega)]; first | done | rfl | (simp; done)) | assumption | rfl)), (by (first | (simp (maxSteps := 5000000) -dsimp only [gr, Nat.reduceEqDiff, Nat.reduceLT, Nat.reduceAdd, Nat.reduceMod, Nat.reduceBEq, sid_mod, sid_ne1, sid_ne2, sid_inj, h1b, h5b, r13b, h6b, r14b, h7b, h8b, h9b, wrap_nat h2 (by omega)]; first | done | rfl | (simp; done)) | assumption | rfl)), (by (first | (simp (maxSteps := 5000000) -dsimp only [gr, Nat.reduceEqDiff, Nat.reduceLT, Nat.reduceAdd, Nat.reduceMod, Nat.reduceBEq, sid_mod, sid_ne1, sid_ne2, sid_inj, h1b, h5b, r13b, h6b, r14b, h7b, h8b, h9b, wrap_nat h2 (by omega)]; first | done | rfl | (simp; done)) | assumption | rfl)), ⟨by omega, pfT ?_ ?_⟩⟩ (by first | omega | (simp only; omega) | (dsimp only; omega) | (show _ < _; simp; omega)), fun he => again_of ((j + 1, fine)) ⟨(by (first | (simp (maxSteps := 5000000) -dsimp only [gr, Nat.reduceEqDiff, Nat.reduceLT, Nat.reduceAdd, Nat.reduceMod, Nat.reduceBEq, sid_mod, sid_ne1, sid_ne2, sid_inj, h1b, h5b, r13b, h6b, r14b, h7b, h8b, h9b, wrap_nat h2 (by omega)]; first | done | rfl | (simp; done)) | assumption | rfl)), (by (first | (simp (maxSteps := 5000000) -dsimp only [gr, Nat.reduceEqDiff, Nat.reduceLT, Nat.reduceAdd, Nat.reduceMod, Nat.reduceBEq, sid_mod, sid_ne1, sid_ne2, sid_inj, h1b, h5b, r13b, h6b, r14b, h7b, h8b, h9b, wrap_nat h2 (by omega)]; first | done | rfl | (simp; done)) | assumption | rfl)), (by (first | (simp (maxSteps := 5000000) -dsimp only [gr, Nat.reduceEqDiff, Nat.reduceLT, Nat.reduceAdd, Nat.reduceMod, Nat.reduceBEq, sid_mod, sid_ne1, sid_ne2, sid_inj, h1b, h5b, r13b, h6b, r14b, h7b, h8b, h9b, wrap_nat h2 (by omega)]; first | done | rfl | (simp; done)) | assumption | rfl)), (by (first | (simp (maxSteps := 5000000) -dsimp only [gr, Nat.reduceEqDiff, Nat.reduceLT, Nat.reduceAdd, Nat.reduceMod, Nat.reduceBEq, sid_mod, sid_ne1, sid_ne2, sid_inj, h1b, h5b, r13b, h6b, r14b, h7b, h8b, h9b, wrap_nat h2 (by omega)]; first | done | rfl | (simp; done)) | assumption | rfl)), (by (first | (simp (maxSteps := 5000000) -dsimp only [gr, Nat.reduceEqDiff, Nat.reduceLT, Nat.reduceAdd, Nat.reduceMod, Nat.reduceBEq, sid_mod, sid_ne1, sid_ne2, sid_inj, h1b, h5b, r13b, h6b, r14b, h7b, h8b, h9b, wrap_nat h2 (by omega)]; first | done | rfl | (simp; done)) | assumption | rfl)), (by (first | (simp (maxSteps := 5000000) -dsimp only [gr, Nat.reduceEqDiff, Nat.reduceLT, Nat.reduceAdd, Nat.reduceMod, Nat.reduceBEq, sid_mod, sid_ne1, sid_ne2, sid_inj, h1b, h5b, r13b, h6b, r14b, h7b, h8b, h9b, wrap_nat h2 (by omega)]; first | done | rfl | (simp; done)) | assumption | rfl)), (by (first | (simp (maxSteps := 5000000) -dsimp only [gr, Nat.reduceEqDiff, Nat.reduceLT, Nat.reduceAdd, Nat.reduceMod, Nat.reduceBEq, sid_mod, sid_ne1, sid_ne2, sid_inj, h1b, h5b, r13b, h6b, r14b, h7b, h8b, h9b, wrap_nat h2 (by omega)]; first | done | rfl | (simp; done)) | assumption | rfl)), (by (first | (simp (maxSteps := 5000000) -dsimp only [gr, Nat.reduceEqDiff, Nat.reduceLT, Nat.reduceAdd, Nat.reduceMod, Nat.reduceBEq, sid_mod, sid_ne1, sid_ne2, sid_inj, h1b, h5b, r13b, h6b, r14b, h7b, h8b, h9b, wrap_nat h2 (by omega)]; first | done | rfl | (simp; done)) | assumption | rfl)), ⟨by omega, pfF (.inl ?_)⟩⟩ (by first | omega | (simp only; omega) | (dsimp only; omega) | (show _ < _; simp; omega))⟩, fun hne => again_of ((j + 1, fine)) ⟨(by (first | (simp (maxSteps := 5000000) -dsimp only [gr, Nat.reduceEqDiff, Nat.reduceLT, Nat.reduceAdd, Nat.reduceMod, Nat.reduceBEq, sid_mod, sid_ne1, sid_ne2, sid_inj, h1b, h5b, r13b, h6b, r14b, h7b, h8b, h9b, wrap_nat h2 (by omega)]; first | done | rfl | (simp; done)) | assumption | rfl)), (by (first | (simp (maxSteps := 5000000) -dsimp only [gr, Nat.reduceEqDiff, Nat.reduceLT, Nat.reduceAdd, Nat.reduceMod, Nat.reduceBEq, sid_mod, sid_ne1, sid_ne2, sid_inj, h1b, h5b, r13b, h6b, r14b, h7b, h8b, h9b, wrap_nat h2 (by omega)]; first | done | rfl | (simp; done)) | assumption | rfl)), (by (first | (simp (maxSteps := 5000000) -dsimp only [gr, Nat.reduceEqDiff, Nat.reduceLT, Nat.reduceAdd, Nat.reduceMod, Nat.reduceBEq, sid_mod, sid_ne1, sid_ne2, sid_inj, h1b, h5b, r13b, h6b, r14b, h7b, h8b, h9b, wrap_nat h2 (by omega)]; first | done | rfl | (simp; done)) | assumption | rfl)), (by (first | (simp (maxSteps := 5000000) -dsimp only [gr, Nat.reduceEqDiff, Nat.reduceLT, Nat.reduceAdd, Nat.reduceMod, Nat.reduceBEq, sid_mod, sid_ne1, sid_ne2, sid_inj, h1b, h5b, r13b, h6b, r14b, h7b, h8b, h9b, wrap_nat h2 (by omega)]; first | done | rfl | (simp; done)) | assumption | rfl)), (by (first | (simp (maxSteps := 5000000) -dsimp only [gr, Nat.reduceEqDiff, Nat.reduceLT, Nat.reduceAdd, Nat.reduceMod, Nat.reduceBEq, sid_mod, sid_ne1, sid_ne2, sid_inj, h1b, h5b, r13b, h6b, r14b, h7b, h8b, h9b, wrap_nat h2 (by omega)]; first | done | rfl | (simp; done)) | assumption | rfl)), (by (first | (simp (maxSteps := 5000000) -dsimp only [gr, Nat.reduceEqDiff, Nat.reduceLT, Nat.reduceAdd, Nat.reduceMod, Nat.reduceBEq, sid_mod, sid_ne1, sid_ne2, sid_inj, h1b, h5b, r13b, h6b, r14b, h7b, h8b, h9b, wrap_nat h2 (by omega)]; first | done | rfl | (simp; done)) | assumption | rfl)), (by (first | (simp (maxSteps := 5000000) -dsimp only [gr, Nat.reduceEqDiff, Nat.reduceLT, Nat.reduceAdd, Nat.reduceMod, Nat.reduceBEq, sid_mod, sid_ne1, sid_ne2, sid_inj, h1b, h5b, r13b, h6b, r14b, h7b, h8b, h9b, wrap_nat h2 (by omega)]; first | done | rfl | (simp; done)) | assumption | rfl)), (by (first | (simp (maxSteps := 5000000) -dsimp only [gr, Nat.reduceEqDiff, Nat.reduceLT, Nat.reduceAdd, Nat.reduceMod, Nat.reduceBEq, sid_mod, sid_ne1, sid_ne2, sid_inj, h1b, h5b, r13b, h6b, r14b, h7b, h8b, h9b, wrap_nat h2 (by omega)]; first | done | rfl | (simp; done)) | assumption | rfl)), ⟨by omega, pfF (.inr ?_)⟩⟩ (by first | omega | (simp only; omega) | (dsimp only; omega) | (show _ < _; simp; omega))⟩, fun h2 => ?_⟩
      · rw [eand h2, ej h2] at he
        have := beq_iff_eq.1 he
        simp only [Bool.false_eq_true, if_false]; rw [Nat.and_comm]; omega
      · rw [ek, ej h2] at hne
        intro e; rw [e] at hne; simp at hne
      · rw [eand h2, ej h2] at he
        simp only [Bool.false_eq_true, if_false]
        intro e; rw [Nat.and_comm] at e; rw [e] at he; simp at he
      · rw [ek, ej h2] at hne
        have := bne_eq_false_iff_eq.1 hne
        omega
      · refine ⟨fun hf => ⟨hk, hk, by omega, ?_⟩, fun hf => ?_⟩
        · have hx := (hend (by omega)).1 hf
          exact again_of ((k + 1, v + 1, u)) (by refine ⟨?_, ?_, ?_, ?_, ?_, ?_, by omega⟩ <;> (first | (simp (maxSteps := 5000000) -dsimp only [gr, Nat.reduceEqDiff, Nat.reduceLT, Nat.reduceAdd, Nat.reduceMod, Nat.reduceBEq, sid_mod, sid_ne1, sid_ne2, sid_inj, h1a, h5a, r13a, h6a, r14a, h7a, h1b, h5b, r13b, h6b, r14b, h7b, h8b, h9b, wrap_nat hk (by omega), filt_yes hk hx, ofN_append, ofN_one, ek]; first | done | rfl | (simp; done)) | assumption | rfl)) (by first | omega | (simp only; omega) | (dsimp only; omega) | (show _ < _; simp; omega))
        · have hx := hend2 (by omega) hf
          exact again_of ((k + 1, v, u)) (by refine ⟨?_, ?_, ?_, ?_, ?_, ?_, by omega⟩ <;> (first | (simp (maxSteps := 5000000) -dsimp only [gr, Nat.reduceEqDiff, Nat.reduceLT, Nat.reduceAdd, Nat.reduceMod, Nat.reduceBEq, sid_mod, sid_ne1, sid_ne2, sid_inj, h1a, h5a, r13a, h6a, r14a, h7a, h1b, h5b, r13b, h6b, r14b, h7b, h8b, h9b, wrap_nat hk (by omega), filt_no hk hx]; first | done | rfl | (simp; done)) | assumption | rfl)) (by first | omega | (simp only; omega) | (dsimp only; omega) | (show _ < _; simp; omega))
  · have : k = all.length := by omega
    subst this
    rw [List.take_length]
end Go.Proofs.Ytnfpeinbdfmlnaa

namespace Go.Proofs.Ytnfpeinbdfmlnaa
open Go.Abs
set_option linter.unusedSimpArgs false
set_option linter.unusedVariables false

/-- The family of a list of sets. -/
def famN (l : List Nat) : Nat := l.foldl (fun F s => F ||| 2 ^ s) 0
theorem famN_snoc (l : List Nat) (s : Nat) : famN (l ++ [s]) = famN l ||| 2 ^ s := by simp [famN]
theorem famN_bit (l : List Nat) : ∀ t, (famN l).testBit t = decide (t ∈ l) := by
  have h : ∀ (l : List Nat) (F t : Nat), (l.foldl (fun F s => F ||| 2 ^ s) F).testBit t = (F.testBit t || decide (t ∈ l)) := by
    intro l
    induction l with
    | nil => intro F t; simp
    | cons s l ih =>
      intro F t
      rw [List.foldl_cons, ih, Nat.testBit_or, Nat.testBit_two_pow]
      by_cases e : s = t
      · subst e; simp
      · have e2 : t ≠ s := fun h => e h.symm
        simp [e, e2]
  intro t
  unfold famN; rw [h]; simp
theorem famN_lt {l : List Nat} (h : ∀ s ∈ l, s < 64) : famN l < 18446744073709551616 := by
  have : famN l < 2 ^ 64 := Nat.lt_pow_two_of_testBit _ fun i hi => by
    rw [famN_bit]
    exact decide_eq_false fun hm => by have := h i hm; omega
  simpa using this
theorem c_impl_familyOf (l : List Nat) (h : ∀ s ∈ l, s < 64) (hl9 : l.length ≤ 1000000) : AC Try.prog 168 [ints (ofN l)] (.tup [.im (u64 (famN l : Nat)), .im (bool true)]) := by
  refine AC.go (rs := [.tmp 2, .tmp 3]) T_ok mixed Try.func168 rfl rfl rfl (by kernel_rfl) fun hl => ?_
  simp (maxSteps := 5000000) -dsimp only [↓gp, gq, reduceCtorEq, Nat.reduceEqDiff, Nat.reduceLT, Nat.reduceLeDiff, Nat.reduceAdd, Nat.reduceMul, Nat.reduceSub, Nat.reduceBEq, Int.reduceToNat, Int.reduceLE, Int.reduceLT, Int.reduceNeg, Nat.reduceMod, sid_ne1, sid_ne2, sid_inj, sid_mod, gT, TK.isInt, TK.agg, Array.toList]
  have hol := ofN_length l
  refine loop_of (fun (k : Nat) s => s.sl 4 = u64 (famN (l.take k) : Nat) ∧ s.sl 7 = ints (ofN l) ∧ s.sl 8 = int l.length ∧ s.sl 9 = int k ∧ (k ≤ l.length)) (fun k => l.length - k) (0) (by refine ⟨?_, ?_, ?_, ?_, by omega⟩ <;> (first | (simp (maxSteps := 5000000) -dsimp only [gr, Nat.reduceEqDiff, Nat.reduceLT, Nat.reduceAdd, Nat.reduceMod, Nat.reduceBEq, sid_mod, sid_ne1, sid_ne2, sid_inj, hol, List.take_zero]; first | done | rfl | (simp; done)) | assumption | rfl)) ?_
  intro k sa ⟨h4a, h7a, h8a, h9a, hIa⟩
  have hlt := famN_lt (l := l.take k) (fun s hs => h s (List.mem_of_mem_take hs))
  simp (maxSteps := 5000000) -dsimp only [↓gp, gq, reduceCtorEq, Nat.reduceEqDiff, Nat.reduceLT, Nat.reduceLeDiff, Nat.reduceAdd, Nat.reduceMul, Nat.reduceSub, Nat.reduceBEq, Int.reduceToNat, Int.reduceLE, Int.reduceLT, Int.reduceNeg, Nat.reduceMod, sid_ne1, sid_ne2, sid_inj, sid_mod, gT, TK.isInt, TK.agg, Array.toList, h4a, h7a, h8a, h9a, hol]
  refine ⟨fun hk => ⟨hk, hk, ?_⟩, fun hk => ?_⟩
  · have hgd := ofN_getD hk
    have hs := h _ (getD_mem 0 hk)
    have hin : inSet 6 ((l.getD k 0 : Nat) : Int) = true := by unfold inSet; exact decide_eq_true ⟨by omega, by omega, by omega, by simpa using (by omega : ((l.getD k 0 : Nat) : Int) < 64)⟩
    have huk : IntKind.u64.wrap ((l.getD k 0 : Nat) : Int) = ((l.getD k 0 : Nat) : Int) := uwrap_id (by omega)
    have h2s : (2 : Nat) ^ (l.getD k 0) < 18446744073709551616 := by
      have : (2 : Nat) ^ (l.getD k 0) < 2 ^ 64 := Nat.pow_lt_pow_right (by omega) (by omega)
      omega
    have hor : ior .u64 (famN (l.take k) : Nat) (ishl .u64 1 ((l.getD k 0 : Nat) : Int)) = ((famN (l.take (k + 1)) : Nat) : Int) := by
      rw [ishl_u (by omega), ior_u (by omega) h2s, take_snoc 0 hk, famN_snoc]
    rw [hgd]
    refine askK_of (c_impl_IsSet _ _) ?_
    rw [hin]
    simp (maxSteps := 5000000) -dsimp only [↓gp, gq, reduceCtorEq, Nat.reduceEqDiff, Nat.reduceLT, Nat.reduceLeDiff, Nat.reduceAdd, Nat.reduceMul, Nat.reduceSub, Nat.reduceBEq, Int.reduceToNat, Int.reduceLE, Int.reduceLT, Int.reduceNeg, Nat.reduceMod, sid_ne1, sid_ne2, sid_inj, sid_mod, gT, TK.isInt, TK.agg, Array.toList, h4a, h7a, h8a, h9a, hol, hgd, huk, hor]
    exact again_of (k + 1) (by refine ⟨?_, ?_, ?_, ?_, by omega⟩ <;> (first | (simp (maxSteps := 5000000) -dsimp only [gr, Nat.reduceEqDiff, Nat.reduceLT, Nat.reduceAdd, Nat.reduceMod, Nat.reduceBEq, sid_mod, sid_ne1, sid_ne2, sid_inj, h4a, h7a, h8a, h9a, wrap_nat hk (by omega), hor]; first | done | rfl | (simp; done)) | assumption | rfl)) (by first | omega | (simp only; omega) | (dsimp only; omega) | (show _ < _; simp; omega))
  · have : k = l.length := by omega
    rw [this, List.take_length]
theorem c_impl_MinimalSets (l : List Nat) (h : ∀ s ∈ l, s < 64) (hl9 : l.length ≤ 1000000) : AC Try.prog 114 [ints (ofN l)] (.fr 3 1 (iL (ofN (extN (inF (ofN l)) false)))) := by
  refine AC.go (rs := [.tmp 2]) T_ok mixed Try.func114 rfl rfl rfl (by kernel_rfl) fun hl => ?_
  simp (maxSteps := 5000000) -dsimp only [↓gp, gq, reduceCtorEq, Nat.reduceEqDiff, Nat.reduceLT, Nat.reduceLeDiff, Nat.reduceAdd, Nat.reduceMul, Nat.reduceSub, Nat.reduceBEq, Int.reduceToNat, Int.reduceLE, Int.reduceLT, Int.reduceNeg, Nat.reduceMod, sid_ne1, sid_ne2, sid_inj, sid_mod, gT, TK.isInt, TK.agg, Array.toList]
  refine askK_of (c_impl_familyOf l h hl9) ?_
  simp (maxSteps := 5000000) -dsimp only [↓gp, gq, reduceCtorEq, Nat.reduceEqDiff, Nat.reduceLT, Nat.reduceLeDiff, Nat.reduceAdd, Nat.reduceMul, Nat.reduceSub, Nat.reduceBEq, Int.reduceToNat, Int.reduceLE, Int.reduceLT, Int.reduceNeg, Nat.reduceMod, sid_ne1, sid_ne2, sid_inj, sid_mod, gT, TK.isInt, TK.agg, Array.toList]
  refine askK_of (c_impl_minimalIn (famN l) (famN_lt h)) ?_
  simp (maxSteps := 5000000) -dsimp only [↓gp, gq, reduceCtorEq, Nat.reduceEqDiff, Nat.reduceLT, Nat.reduceLeDiff, Nat.reduceAdd, Nat.reduceMul, Nat.reduceSub, Nat.reduceBEq, Int.reduceToNat, Int.reduceLE, Int.reduceLT, Int.reduceNeg, Nat.reduceMod, sid_ne1, sid_ne2, sid_inj, sid_mod, gT, TK.isInt, TK.agg, Array.toList]
  have : (famN l).testBit = inF (ofN l) := by
    funext t
    rw [famN_bit]
    unfold inF ofN
    simp
    exact ⟨fun h => ⟨t, h, rfl⟩, fun ⟨a, ha, e⟩ => by rwa [show a = t by omega] at ha⟩
  rw [this]
theorem c_impl_MakeIdeal (l : List Nat) (h : ∀ s ∈ l, s < 64) (hl9 : l.length ≤ 64) : AC Try.prog 73 [int 6, ints (ofN l)] (.tup [.ag [.im (int 6), .fr 3 1 (iL (ofN (extN (inF (ofN l)) false)))], .im (bool true)]) := by
  refine AC.go (rs := [.cell 4 43, .tmp 5]) T_ok mixed Try.func73 rfl rfl rfl (by kernel_rfl) fun hl => ?_
  simp (maxSteps := 5000000) -dsimp only [↓gp, gq, reduceCtorEq, Nat.reduceEqDiff, Nat.reduceLT, Nat.reduceLeDiff, Nat.reduceAdd, Nat.reduceMul, Nat.reduceSub, Nat.reduceBEq, Int.reduceToNat, Int.reduceLE, Int.reduceLT, Int.reduceNeg, Nat.reduceMod, sid_ne1, sid_ne2, sid_inj, sid_mod, gT, TK.isInt, TK.agg, Array.toList]
  refine askK_of (c_impl_areSetsOf 6 (ofN l)) ?_
  have hd : decide (1 ≤ (6 : Int) ∧ (6 : Int) ≤ 6 ∧ (ofN l).length ≤ 64 ∧ ∀ x ∈ ofN l, inSet 6 x = true) = true := by
    refine decide_eq_true ⟨by omega, by omega, by rw [ofN_length]; exact hl9, fun x hx => ?_⟩
    obtain ⟨s, hs, rfl⟩ := List.mem_map.1 hx
    have := h s hs
    unfold inSet; exact decide_eq_true ⟨by omega, by omega, by omega, by simpa using (by omega : (s : Int) < 64)⟩
  rw [hd]
  simp (maxSteps := 5000000) -dsimp only [↓gp, gq, reduceCtorEq, Nat.reduceEqDiff, Nat.reduceLT, Nat.reduceLeDiff, Nat.reduceAdd, Nat.reduceMul, Nat.reduceSub, Nat.reduceBEq, Int.reduceToNat, Int.reduceLE, Int.reduceLT, Int.reduceNeg, Nat.reduceMod, sid_ne1, sid_ne2, sid_inj, sid_mod, gT, TK.isInt, TK.agg, Array.toList]
  refine askK_of (c_impl_MinimalSets l h (by omega)) ?_
  simp (maxSteps := 5000000) -dsimp only [↓gp, gq, reduceCtorEq, Nat.reduceEqDiff, Nat.reduceLT, Nat.reduceLeDiff, Nat.reduceAdd, Nat.reduceMul, Nat.reduceSub, Nat.reduceBEq, Int.reduceToNat, Int.reduceLE, Int.reduceLT, Int.reduceNeg, Nat.reduceMod, sid_ne1, sid_ne2, sid_inj, sid_mod, gT, TK.isInt, TK.agg, Array.toList]
theorem c_spec_l29Make (l : List Nat) (h : ∀ s ∈ l, s < 64) : AC Try.prog 72 [int 6, ints (ofN l)] (.ag [.im (int 6), .fr 3 1 (iL (ofN (extN (inF (ofN l)) false)))]) := by
  refine AC.go (rs := [.cell 4 43]) T_ok mixed Try.func72 rfl rfl rfl (by kernel_rfl) fun hl => ?_
  simp (maxSteps := 5000000) -dsimp only [↓gp, gq, reduceCtorEq, Nat.reduceEqDiff, Nat.reduceLT, Nat.reduceLeDiff, Nat.reduceAdd, Nat.reduceMul, Nat.reduceSub, Nat.reduceBEq, Int.reduceToNat, Int.reduceLE, Int.reduceLT, Int.reduceNeg, Nat.reduceMod, sid_ne1, sid_ne2, sid_inj, sid_mod, gT, TK.isInt, TK.agg, Array.toList]
  refine askK_of (c_spec_l2Extreme false (ofN l) fun x hx => ?_) ?_
  · obtain ⟨s, hs, rfl⟩ := List.mem_map.1 hx
    have := h s hs
    omega
  · simp (maxSteps := 5000000) -dsimp only [↓gp, gq, reduceCtorEq, Nat.reduceEqDiff, Nat.reduceLT, Nat.reduceLeDiff, Nat.reduceAdd, Nat.reduceMul, Nat.reduceSub, Nat.reduceBEq, Int.reduceToNat, Int.reduceLE, Int.reduceLT, Int.reduceNeg, Nat.reduceMod, sid_ne1, sid_ne2, sid_inj, sid_mod, gT, TK.isInt, TK.agg, Array.toList]
/-- The points of the first exponents, spread. -/
def sprN (r : List Int) : Nat → Nat | 0 => 0 | i + 1 => sprN r i + (2 ^ (r.getD i 0).toNat - 1) * 4 ^ i
theorem sprN_lt {r : List Int} (h : isPow r = true) : ∀ i, i ≤ 3 → sprN r i < 4 ^ i := by
  intro i
  induction i with
  | zero => intro _; simp [sprN]
  | succ i ih =>
    intro hi
    have h1 := ih (by omega)
    have h2 := isPow_bd h (j := i) (by omega)
    rw [sprN, Nat.pow_succ]
    have h3 : (2 ^ (r.getD i 0).toNat - 1) ≤ 3 := by
      have : 2 ^ (r.getD i 0).toNat ≤ 2 ^ 2 := Nat.pow_le_pow_right (by omega) (by omega)
      omega
    have h4 := Nat.mul_le_mul_right (4 ^ i) h3
    omega
theorem spr_s : ∀ e, e < 3 → ∀ i, i < 3 → ishl .i64 (IntKind.i64.wrap (ishl .i64 1 (e : Nat) - 1)) (IntKind.u64.wrap (IntKind.i64.wrap (2 * (i : Nat)))) = (((2 ^ e - 1) * 4 ^ i : Nat) : Int) := by decide
theorem spr_1 : ∀ i, i < 3 → ∀ s, s < 16 → s < 4 ^ i → ior .i64 (s : Nat) (ishl .i64 1 (IntKind.u64.wrap (IntKind.i64.wrap (2 * (i : Nat))))) = ((s + 4 ^ i : Nat) : Int) := by decide +kernel
theorem spr_2 : ∀ i, i < 3 → ∀ s, s < 16 → s < 4 ^ i → ior .i64 (s + 4 ^ i : Nat) (ishl .i64 1 (IntKind.u64.wrap (IntKind.i64.wrap (IntKind.i64.wrap (2 * (i : Nat)) + 1)))) = ((s + 3 * 4 ^ i : Nat) : Int) := by decide +kernel
def sprL (x : List (List Int)) : List Nat := x.map fun r => sprN r 3
theorem sprL_len (x : List (List Int)) : (sprL x).length = x.length := by simp [sprL]
theorem sprL_snoc {x : List (List Int)} {k : Nat} (h : k < x.length) : sprL (x.take (k + 1)) = sprL (x.take k) ++ [sprN (x.getD k []) 3] := by rw [take_snoc [] h]; simp [sprL]
noncomputable def spV (x : List (List Int)) : List Nat := if p19 x = true then extN (inF (ofN (sprL x))) false else []
noncomputable def spO (x : List (List Int)) : Int := if p19 x = true then 6 else 0
theorem c_spec_SpreadPowers (x : List (List Int)) : AC Try.prog 31 [.ag [int2 x]] (.tup [.ag [.im (int (spO x)), .fr 3 1 (iL (ofN (spV x)))], .im (bool (p19 x))]) := by
  refine AC.go (rs := [.cell 2 43, .tmp 3]) T_ok mixed Try.func31 rfl rfl rfl (by kernel_rfl) fun hl => ?_
  simp only [lens_cons, lens_nil, and_true, lens2, List.mem_singleton, forall_eq, lens1_iLL] at hl
  simp (maxSteps := 5000000) -dsimp only [↓gp, gq, reduceCtorEq, Nat.reduceEqDiff, Nat.reduceLT, Nat.reduceLeDiff, Nat.reduceAdd, Nat.reduceMul, Nat.reduceSub, Nat.reduceBEq, Int.reduceToNat, Int.reduceLE, Int.reduceLT, Int.reduceNeg, Nat.reduceMod, sid_ne1, sid_ne2, sid_inj, sid_mod, gT, TK.isInt, TK.agg, Array.toList]
  refine askK_of (c_spec_ArePowers x) ?_
  simp (maxSteps := 5000000) -dsimp only [↓gp, gq, reduceCtorEq, Nat.reduceEqDiff, Nat.reduceLT, Nat.reduceLeDiff, Nat.reduceAdd, Nat.reduceMul, Nat.reduceSub, Nat.reduceBEq, Int.reduceToNat, Int.reduceLE, Int.reduceLT, Int.reduceNeg, Nat.reduceMod, sid_ne1, sid_ne2, sid_inj, sid_mod, gT, TK.isInt, TK.agg, Array.toList]
  refine ⟨fun hp => ?_, fun hp => ?_⟩
  · have hp : p19 x = false := by simpa using hp
    rw [spV, spO, hp]; exact ⟨rfl, rfl, rfl⟩
  · have hp : p19 x = true := by simpa using hp
    obtain ⟨hok, hx5⟩ := p19_all hp
    have hz : ofN (sprL (x.take 0)) = [] := rfl
    refine loop_of (fun (za : Nat × Nat) s => match za with | (k, v) => s.sl 1 = .ref 1 1 0 ∧ s.rw 1 = ⟨1, .box 27 [int2 x]⟩ ∧ s.sl 2 = .ref 2 1 0 ∧ s.rw 2 = ⟨1, .box 43 [int 0, .v (.slice none 0 0)]⟩ ∧ s.sl 4 = .own 12 v ∧ s.rw 12 = ⟨v, .sli 3 1 false (iL (ofN (sprL (x.take k))))⟩ ∧ s.sl 5 = int k ∧ (k ≤ x.length)) (fun (k, v) => x.length - k) ((0, 1)) (by refine ⟨?_, ?_, ?_, ?_, ?_, ?_, ?_, by omega⟩ <;> (first | (simp (maxSteps := 5000000) -dsimp only [gr, Nat.reduceEqDiff, Nat.reduceLT, Nat.reduceAdd, Nat.reduceMod, Nat.reduceBEq, sid_mod, sid_ne1, sid_ne2, sid_inj, hz]; first | done | rfl | (simp; done)) | assumption | rfl)) ?_
    intro (k, v) sa ⟨h1a, r1a, h2a, r2a, h4a, r12a, h5a, hIa⟩
    simp (maxSteps := 5000000) -dsimp only [↓gp, gq, reduceCtorEq, Nat.reduceEqDiff, Nat.reduceLT, Nat.reduceLeDiff, Nat.reduceAdd, Nat.reduceMul, Nat.reduceSub, Nat.reduceBEq, Int.reduceToNat, Int.reduceLE, Int.reduceLT, Int.reduceNeg, Nat.reduceMod, sid_ne1, sid_ne2, sid_inj, sid_mod, gT, TK.isInt, TK.agg, Array.toList, h1a, r1a, h2a, r2a, h4a, r12a, h5a]
    refine ⟨fun hk => ?_, fun hk => ?_⟩
    · have hpk := (hok k hk).1
      have hr3 := isPow_3 hpk
      refine loop_of (fun (i : Nat) s => s.sl 1 = .ref 1 1 0 ∧ s.rw 1 = ⟨1, .box 27 [int2 x]⟩ ∧ s.sl 2 = .ref 2 1 0 ∧ s.rw 2 = ⟨1, .box 43 [int 0, .v (.slice none 0 0)]⟩ ∧ s.sl 4 = .own 12 v ∧ s.rw 12 = ⟨v, .sli 3 1 false (iL (ofN (sprL (x.take k))))⟩ ∧ s.sl 5 = int k ∧ s.sl 6 = int (sprN (x.getD k []) i) ∧ s.sl 7 = int i ∧ (i ≤ 3)) (fun i => 3 - i) (0) (by refine ⟨?_, ?_, ?_, ?_, ?_, ?_, ?_, ?_, ?_, by omega⟩ <;> (first | (simp (maxSteps := 5000000) -dsimp only [gr, Nat.reduceEqDiff, Nat.reduceLT, Nat.reduceAdd, Nat.reduceMod, Nat.reduceBEq, sid_mod, sid_ne1, sid_ne2, sid_inj, h1a, r1a, h2a, r2a, h4a, r12a, h5a, sprN]; first | done | rfl | (simp; done)) | assumption | rfl)) ?_
      intro i sb ⟨h1b, r1b, h2b, r2b, h4b, r12b, h5b, h6b, h7b, hIb⟩
      by_cases hi : i < 3
      · have hb := isPow_bd hpk (j := i) hi
        obtain ⟨e, he⟩ : ∃ e : Nat, (x.getD k []).getD i 0 = e := ⟨((x.getD k []).getD i 0).toNat, by omega⟩
        have hss := spr_s e (by omega) i hi
        have hue : IntKind.u64.wrap (e : Int) = (e : Int) := uwrap_id (by omega)
        have hn2 : 0 ≤ IntKind.u64.wrap (IntKind.i64.wrap (2 * (i : Int))) := by
          rw [wrap_id (by omega) (by omega)]
          have := uwrap_id (a := 2 * i) (by omega)
          rw [show ((2 * i : Nat) : Int) = 2 * (i : Int) by omega] at this
          rw [this]; omega
        have hlt := sprN_lt hpk i (by omega)
        have h4 : 4 ^ i ≤ 16 := by
          have : 4 ^ i ≤ 4 ^ 2 := Nat.pow_le_pow_right (by omega) (by omega)
          omega
        have hlt2 := sprN_lt hpk (i + 1) (by omega)
        have h42 : 4 ^ (i + 1) ≤ 64 := by
          have : 4 ^ (i + 1) ≤ 4 ^ 3 := Nat.pow_le_pow_right (by omega) (by omega)
          omega
        have hst : sprN (x.getD k []) (i + 1) = sprN (x.getD k []) i + (2 ^ e - 1) * 4 ^ i := by rw [sprN, he, Int.toNat_natCast]
        have hw : IntKind.i64.wrap (((sprN (x.getD k []) i : Nat) : Int) + (((2 ^ e - 1) * 4 ^ i : Nat) : Int)) = ((sprN (x.getD k []) (i + 1) : Nat) : Int) := by
          rw [← Int.natCast_add, ← hst, wrap_id (by omega) (by omega)]
        simp (maxSteps := 5000000) -dsimp only [↓gp, gq, reduceCtorEq, Nat.reduceEqDiff, Nat.reduceLT, Nat.reduceLeDiff, Nat.reduceAdd, Nat.reduceMul, Nat.reduceSub, Nat.reduceBEq, Int.reduceToNat, Int.reduceLE, Int.reduceLT, Int.reduceNeg, Nat.reduceMod, sid_ne1, sid_ne2, sid_inj, sid_mod, gT, TK.isInt, TK.agg, Array.toList, h1b, r1b, h2b, r2b, h4b, r12b, h5b, h6b, h7b, he, hue, hss, hw]
        exact ⟨fun _ => ⟨hk, hk, by omega, by omega, hn2, again_of (i + 1) (by refine ⟨?_, ?_, ?_, ?_, ?_, ?_, ?_, ?_, ?_, by omega⟩ <;> (first | (simp (maxSteps := 5000000) -dsimp only [gr, Nat.reduceEqDiff, Nat.reduceLT, Nat.reduceAdd, Nat.reduceMod, Nat.reduceBEq, sid_mod, sid_ne1, sid_ne2, sid_inj, h1b, r1b, h2b, r2b, h4b, r12b, h5b, h6b, h7b, hw, wrap_nat hi (by omega)]; first | done | rfl | (simp; done)) | assumption | rfl)) (by first | omega | (simp only; omega) | (dsimp only; omega) | (show _ < _; simp; omega))⟩, fun h => absurd (by omega) h⟩
      · have hi3 : i = 3 := by omega
        subst hi3
        have hs := sprL_snoc hk
        have hsn : ofN (sprL (x.take (k + 1))) = ofN (sprL (x.take k)) ++ [((sprN (x.getD k []) 3 : Nat) : Int)] := by rw [hs, ofN_append, ofN_one]
        simp (maxSteps := 5000000) -dsimp only [↓gp, gq, reduceCtorEq, Nat.reduceEqDiff, Nat.reduceLT, Nat.reduceLeDiff, Nat.reduceAdd, Nat.reduceMul, Nat.reduceSub, Nat.reduceBEq, Int.reduceToNat, Int.reduceLE, Int.reduceLT, Int.reduceNeg, Nat.reduceMod, sid_ne1, sid_ne2, sid_inj, sid_mod, gT, TK.isInt, TK.agg, Array.toList, h1b, r1b, h2b, r2b, h4b, r12b, h5b, h6b, h7b]
        refine ⟨fun h => absurd h (by decide), fun _ => ⟨by rw [ofN_length, sprL_len, List.length_take]; omega, again_of ((k + 1, v + 1)) (by refine ⟨?_, ?_, ?_, ?_, ?_, ?_, ?_, by dsimp only; omega⟩ <;> (first | (simp (maxSteps := 5000000) -dsimp only [gr, Nat.reduceEqDiff, Nat.reduceLT, Nat.reduceAdd, Nat.reduceMod, Nat.reduceBEq, sid_mod, sid_ne1, sid_ne2, sid_inj, h1a, r1a, h2a, r2a, h4a, r12a, h5a, h1b, r1b, h2b, r2b, h4b, r12b, h5b, h6b, h7b, hsn, wrap_nat hk (show x.length ≤ 9223372036854775807 by omega)]; first | done | rfl | (simp; done)) | assumption | rfl)) (by first | omega | (simp only; omega) | (dsimp only; omega) | (show _ < _; simp; omega))⟩⟩
    · have hkl : k = x.length := by omega
      subst hkl
      rw [List.take_length]
      refine askK_of (c_spec_l29Make (sprL x) fun s hs => ?_) ?_
      · obtain ⟨r, hr, rfl⟩ := List.mem_map.1 hs
        obtain ⟨j, hj, rfl⟩ := List.getElem_of_mem hr
        have hpj := (hok j hj).1
        have e1 : x.getD j [] = x[j] := by simp [List.getD, hj]
        rw [e1] at hpj
        exact sprN_lt hpj 3 (by omega)
      · simp (maxSteps := 5000000) -dsimp only [↓gp, gq, reduceCtorEq, Nat.reduceEqDiff, Nat.reduceLT, Nat.reduceLeDiff, Nat.reduceAdd, Nat.reduceMul, Nat.reduceSub, Nat.reduceBEq, Int.reduceToNat, Int.reduceLE, Int.reduceLT, Int.reduceNeg, Nat.reduceMod, sid_ne1, sid_ne2, sid_inj, sid_mod, gT, TK.isInt, TK.agg, Array.toList, h1a, r1a, h2a, r2a, h4a, r12a, h5a]
        rw [spV, spO, hp]; exact ⟨rfl, rfl, rfl⟩
theorem c_impl_SpreadPowers (x : List (List Int)) : AC Try.prog 32 [.ag [int2 x]] (.tup [.ag [.im (int (spO x)), .fr 3 1 (iL (ofN (spV x)))], .im (bool (p19 x))]) := by
  refine AC.go (rs := [.cell 2 43, .tmp 3]) T_ok mixed Try.func32 rfl rfl rfl (by kernel_rfl) fun hl => ?_
  simp only [lens_cons, lens_nil, and_true, lens2, List.mem_singleton, forall_eq, lens1_iLL] at hl
  simp (maxSteps := 5000000) -dsimp only [↓gp, gq, reduceCtorEq, Nat.reduceEqDiff, Nat.reduceLT, Nat.reduceLeDiff, Nat.reduceAdd, Nat.reduceMul, Nat.reduceSub, Nat.reduceBEq, Int.reduceToNat, Int.reduceLE, Int.reduceLT, Int.reduceNeg, Nat.reduceMod, sid_ne1, sid_ne2, sid_inj, sid_mod, gT, TK.isInt, TK.agg, Array.toList]
  refine askK_of (c_impl_ArePowers x) ?_
  rw [← p19_21]
  simp (maxSteps := 5000000) -dsimp only [↓gp, gq, reduceCtorEq, Nat.reduceEqDiff, Nat.reduceLT, Nat.reduceLeDiff, Nat.reduceAdd, Nat.reduceMul, Nat.reduceSub, Nat.reduceBEq, Int.reduceToNat, Int.reduceLE, Int.reduceLT, Int.reduceNeg, Nat.reduceMod, sid_ne1, sid_ne2, sid_inj, sid_mod, gT, TK.isInt, TK.agg, Array.toList]
  refine ⟨fun hp => ?_, fun hp => ?_⟩
  · have hp : p19 x = false := by simpa using hp
    rw [spV, spO, hp]; exact ⟨rfl, rfl, rfl⟩
  · have hp : p19 x = true := by simpa using hp
    obtain ⟨hok, hx5⟩ := p19_all hp
    have hz : ofN (sprL (x.take 0)) = [] := rfl
    refine loop_of (fun (za : Nat × Nat) s => match za with | (k, v) => s.sl 1 = .ref 1 1 0 ∧ s.rw 1 = ⟨1, .box 27 [int2 x]⟩ ∧ s.sl 2 = .ref 2 1 0 ∧ s.rw 2 = ⟨1, .box 43 [int 0, .v (.slice none 0 0)]⟩ ∧ s.sl 4 = .own 4 v ∧ s.rw 4 = ⟨v, .sli 3 1 false (iL (ofN (sprL (x.take k))))⟩ ∧ s.sl 15 = int2 x ∧ s.sl 16 = int x.length ∧ s.sl 17 = int k ∧ (k ≤ x.length)) (fun (k, v) => x.length - k) ((0, 1)) (by refine ⟨?_, ?_, ?_, ?_, ?_, ?_, ?_, ?_, ?_, by omega⟩ <;> (first | (simp (maxSteps := 5000000) -dsimp only [gr, Nat.reduceEqDiff, Nat.reduceLT, Nat.reduceAdd, Nat.reduceMod, Nat.reduceBEq, sid_mod, sid_ne1, sid_ne2, sid_inj, hz]; first | done | rfl | (simp; done)) | assumption | rfl)) ?_
    intro (k, v) sa ⟨h1a, r1a, h2a, r2a, h4a, r4a, h15a, h16a, h17a, hIa⟩
    simp (maxSteps := 5000000) -dsimp only [↓gp, gq, reduceCtorEq, Nat.reduceEqDiff, Nat.reduceLT, Nat.reduceLeDiff, Nat.reduceAdd, Nat.reduceMul, Nat.reduceSub, Nat.reduceBEq, Int.reduceToNat, Int.reduceLE, Int.reduceLT, Int.reduceNeg, Nat.reduceMod, sid_ne1, sid_ne2, sid_inj, sid_mod, gT, TK.isInt, TK.agg, Array.toList, h1a, r1a, h2a, r2a, h4a, r4a, h15a, h16a, h17a]
    refine ⟨fun hk => ?_, fun hk => ?_⟩
    · have hpk := (hok k hk).1
      have hr3 := isPow_3 hpk
      refine ⟨hk, hk, ?_⟩
      refine loop_of (fun (i : Nat) s => s.sl 1 = .ref 1 1 0 ∧ s.rw 1 = ⟨1, .box 27 [int2 x]⟩ ∧ s.sl 2 = .ref 2 1 0 ∧ s.rw 2 = ⟨1, .box 43 [int 0, .v (.slice none 0 0)]⟩ ∧ s.sl 4 = .own 4 v ∧ s.rw 4 = ⟨v, .sli 3 1 false (iL (ofN (sprL (x.take k))))⟩ ∧ s.sl 15 = int2 x ∧ s.sl 16 = int x.length ∧ s.sl 17 = int k ∧ s.sl 7 = int (sprN (x.getD k []) i) ∧ s.sl 21 = ints (x.getD k []) ∧ s.sl 22 = int 3 ∧ s.sl 23 = int i ∧ (i ≤ 3)) (fun i => 3 - i) (0) (by refine ⟨?_, ?_, ?_, ?_, ?_, ?_, ?_, ?_, ?_, ?_, ?_, ?_, ?_, by omega⟩ <;> (first | (simp (maxSteps := 5000000) -dsimp only [gr, Nat.reduceEqDiff, Nat.reduceLT, Nat.reduceAdd, Nat.reduceMod, Nat.reduceBEq, sid_mod, sid_ne1, sid_ne2, sid_inj, h1a, r1a, h2a, r2a, h4a, r4a, h15a, h16a, h17a, sprN, hr3]; first | done | rfl | (simp; done)) | assumption | rfl)) ?_
      intro i sb ⟨h1b, r1b, h2b, r2b, h4b, r4b, h15b, h16b, h17b, h7b, h21b, h22b, h23b, hIb⟩
      by_cases hi : i < 3
      · have hb := isPow_bd hpk (j := i) hi
        obtain ⟨e, he⟩ : ∃ e : Nat, (x.getD k []).getD i 0 = e := ⟨((x.getD k []).getD i 0).toNat, by omega⟩
        have hn2 : 0 ≤ IntKind.u64.wrap (IntKind.i64.wrap (2 * (i : Int))) := by
          rw [wrap_id (by omega) (by omega)]
          have := uwrap_id (a := 2 * i) (by omega)
          rw [show ((2 * i : Nat) : Int) = 2 * (i : Int) by omega] at this
          rw [this]; omega
        have hlt := sprN_lt hpk i (by omega)
        have h4 : 4 ^ i ≤ 16 := by
          have : 4 ^ i ≤ 4 ^ 2 := Nat.pow_le_pow_right (by omega) (by omega)
          omega
        have h1 := spr_1 i hi (sprN (x.getD k []) i) (by omega) hlt
        have h2 := spr_2 i hi (sprN (x.getD k []) i) (by omega) hlt
        have hst : sprN (x.getD k []) (i + 1) = sprN (x.getD k []) i + (2 ^ e - 1) * 4 ^ i := by rw [sprN, he, Int.toNat_natCast]
        have hn3 : 0 ≤ IntKind.u64.wrap (IntKind.i64.wrap (IntKind.i64.wrap (2 * (i : Int)) + 1)) := by
          rw [wrap_id (n := 2 * (i : Int)) (by omega) (by omega), wrap_id (by omega) (by omega)]
          have := uwrap_id (a := 2 * i + 1) (by omega)
          rw [show ((2 * i + 1 : Nat) : Int) = 2 * (i : Int) + 1 by omega] at this
          rw [this]; omega
        simp (maxSteps := 5000000) -dsimp only [↓gp, gq, reduceCtorEq, Nat.reduceEqDiff, Nat.reduceLT, Nat.reduceLeDiff, Nat.reduceAdd, Nat.reduceMul, Nat.reduceSub, Nat.reduceBEq, Int.reduceToNat, Int.reduceLE, Int.reduceLT, Int.reduceNeg, Nat.reduceMod, sid_ne1, sid_ne2, sid_inj, sid_mod, gT, TK.isInt, TK.agg, Array.toList, h1b, r1b, h2b, r2b, h4b, r4b, h15b, h16b, h17b, h7b, h21b, h22b, h23b, he, h1, h2]
        refine ⟨fun _ => ⟨by omega, by omega, fun h3 => ⟨hn2, fun h4 => ⟨hn3, ?_⟩, fun h4 => ?_⟩, fun h3 => ⟨fun h4 => ?_, fun h4 => ?_⟩⟩, fun h => absurd (by omega) h⟩
        · have e2 : e = 2 := by
            have : (e : Int) = 2 := by simpa using h4
            omega
          subst e2
          exact again_of (i + 1) (by refine ⟨?_, ?_, ?_, ?_, ?_, ?_, ?_, ?_, ?_, ?_, ?_, ?_, ?_, by omega⟩ <;> (first | (simp (maxSteps := 5000000) -dsimp only [gr, Nat.reduceEqDiff, Nat.reduceLT, Nat.reduceAdd, Nat.reduceMod, Nat.reduceBEq, sid_mod, sid_ne1, sid_ne2, sid_inj, h1b, r1b, h2b, r2b, h4b, r4b, h15b, h16b, h17b, h7b, h21b, h22b, h23b, hst, wrap_nat hi (by omega)]; first | done | rfl | (simp; done)) | assumption | rfl)) (by first | omega | (simp only; omega) | (dsimp only; omega) | (show _ < _; simp; omega))
        · have e2 : e = 1 := by
            have : ¬ (e : Int) = 2 := by simpa using h4
            omega
          subst e2
          have e3 : (2 ^ 1 - 1) * 4 ^ i = 4 ^ i := by omega
          rw [e3] at hst
          exact again_of (i + 1) (by refine ⟨?_, ?_, ?_, ?_, ?_, ?_, ?_, ?_, ?_, ?_, ?_, ?_, ?_, by omega⟩ <;> (first | (simp (maxSteps := 5000000) -dsimp only [gr, Nat.reduceEqDiff, Nat.reduceLT, Nat.reduceAdd, Nat.reduceMod, Nat.reduceBEq, sid_mod, sid_ne1, sid_ne2, sid_inj, h1b, r1b, h2b, r2b, h4b, r4b, h15b, h16b, h17b, h7b, h21b, h22b, h23b, hst, wrap_nat hi (by omega)]; first | done | rfl | (simp; done)) | assumption | rfl)) (by first | omega | (simp only; omega) | (dsimp only; omega) | (show _ < _; simp; omega))
        · have : (e : Int) = 2 := by simpa using h4
          omega
        · have e2 : e = 0 := by omega
          subst e2
          have e3 : (2 ^ 0 - 1) * 4 ^ i = 0 := by omega
          rw [e3, Nat.add_zero] at hst
          exact again_of (i + 1) (by refine ⟨?_, ?_, ?_, ?_, ?_, ?_, ?_, ?_, ?_, ?_, ?_, ?_, ?_, by omega⟩ <;> (first | (simp (maxSteps := 5000000) -dsimp only [gr, Nat.reduceEqDiff, Nat.reduceLT, Nat.reduceAdd, Nat.reduceMod, Nat.reduceBEq, sid_mod, sid_ne1, sid_ne2, sid_inj, h1b, r1b, h2b, r2b, h4b, r4b, h15b, h16b, h17b, h7b, h21b, h22b, h23b, hst, wrap_nat hi (by omega)]; first | done | rfl | (simp; done)) | assumption | rfl)) (by first | omega | (simp only; omega) | (dsimp only; omega) | (show _ < _; simp; omega))
      · have hi3 : i = 3 := by omega
        subst hi3
        have hs := sprL_snoc hk
        have hsn : ofN (sprL (x.take (k + 1))) = ofN (sprL (x.take k)) ++ [((sprN (x.getD k []) 3 : Nat) : Int)] := by rw [hs, ofN_append, ofN_one]
        simp (maxSteps := 5000000) -dsimp only [↓gp, gq, reduceCtorEq, Nat.reduceEqDiff, Nat.reduceLT, Nat.reduceLeDiff, Nat.reduceAdd, Nat.reduceMul, Nat.reduceSub, Nat.reduceBEq, Int.reduceToNat, Int.reduceLE, Int.reduceLT, Int.reduceNeg, Nat.reduceMod, sid_ne1, sid_ne2, sid_inj, sid_mod, gT, TK.isInt, TK.agg, Array.toList, h1b, r1b, h2b, r2b, h4b, r4b, h15b, h16b, h17b, h7b, h21b, h22b, h23b]
        refine ⟨fun h => absurd h (by decide), fun _ => ⟨by rw [ofN_length, sprL_len, List.length_take]; omega, again_of ((k + 1, v + 1)) (by refine ⟨?_, ?_, ?_, ?_, ?_, ?_, ?_, ?_, ?_, by dsimp only; omega⟩ <;> (first | (simp (maxSteps := 5000000) -dsimp only [gr, Nat.reduceEqDiff, Nat.reduceLT, Nat.reduceAdd, Nat.reduceMod, Nat.reduceBEq, sid_mod, sid_ne1, sid_ne2, sid_inj, h1a, r1a, h2a, r2a, h4a, r4a, h15a, h16a, h17a, h1b, r1b, h2b, r2b, h4b, r4b, h15b, h16b, h17b, h7b, h21b, h22b, h23b, hsn, wrap_nat hk (show x.length ≤ 9223372036854775807 by omega)]; first | done | rfl | (simp; done)) | assumption | rfl)) (by first | omega | (simp only; omega) | (dsimp only; omega) | (show _ < _; simp; omega))⟩⟩
    · have hkl : k = x.length := by omega
      subst hkl
      rw [List.take_length]
      refine askK_of (c_impl_MakeIdeal (sprL x) (fun s hs => ?_) (by rw [sprL_len]; omega)) ?_
      · obtain ⟨r, hr, rfl⟩ := List.mem_map.1 hs
        obtain ⟨j, hj, rfl⟩ := List.getElem_of_mem hr
        have hpj := (hok j hj).1
        have e1 : x.getD j [] = x[j] := by simp [List.getD, hj]
        rw [e1] at hpj
        exact sprN_lt hpj 3 (by omega)
      · simp (maxSteps := 5000000) -dsimp only [↓gp, gq, reduceCtorEq, Nat.reduceEqDiff, Nat.reduceLT, Nat.reduceLeDiff, Nat.reduceAdd, Nat.reduceMul, Nat.reduceSub, Nat.reduceBEq, Int.reduceToNat, Int.reduceLE, Int.reduceLT, Int.reduceNeg, Nat.reduceMod, sid_ne1, sid_ne2, sid_inj, sid_mod, gT, TK.isInt, TK.agg, Array.toList, h1a, r1a, h2a, r2a, h4a, r4a, h15a, h16a, h17a]
        rw [spV, spO, hp]; exact ⟨rfl, rfl, rfl⟩
end Go.Proofs.Ytnfpeinbdfmlnaa
