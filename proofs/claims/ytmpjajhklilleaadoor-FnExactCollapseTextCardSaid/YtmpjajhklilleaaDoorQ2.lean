/- DERIVED by an AI agent. -/
import Derived.Test.YtmpjajhklilleaaDoorQ1
import Derived.Test.YtmpjajhklilleaaDoorP1
import Derived.Test.YtmpjajhklilleaaDoorA15
import Derived.Test.YtmpjajhklilleaaDoorA14
namespace Go.Proofs.YtmpjajhklilleaaDoor
open Go.Abs
set_option linter.unusedSimpArgs false
set_option linter.unusedVariables false

theorem c_impl_hasSet (F s : Nat) (hF : F < 18446744073709551616) (hs : s < 64) : AC Tryd.prog 68 [u64 F, int s] (.im (bool (F.testBit s))) := by
  refine AC.go (rs := [.tmp 4]) T_ok mixed Tryd.func68 rfl rfl rfl (by kernel_rfl) fun hl => ?_
  have hw : IntKind.u64.wrap (s : Int) = (s : Int) := uwrap_id (by omega)
  simp (maxSteps := 5000000) -dsimp only [↓gp, gq, reduceCtorEq, Nat.reduceEqDiff, Nat.reduceLT, Nat.reduceLeDiff, Nat.reduceAdd, Nat.reduceMul, Nat.reduceSub, Nat.reduceBEq, Int.reduceToNat, Int.reduceLE, Int.reduceLT, Int.reduceNeg, Nat.reduceMod, sid_ne1, sid_ne2, sid_inj, sid_mod, gT, TK.isInt, TK.agg, Array.toList, hw, bit_test hF hs]
/-- A loop's numbers. -/
theorem c_impl_setsIn (F : Nat) (hF : F < 18446744073709551616) : AC Tryd.prog 66 [u64 F] (.fr 3 1 (iL (ofN (ordN F.testBit)))) := by
  refine AC.go (rs := [.tmp 2]) T_ok mixed Tryd.func66 rfl rfl rfl (by kernel_rfl) fun hl => ?_
  simp (maxSteps := 5000000) -dsimp only [↓gp, gq, reduceCtorEq, Nat.reduceEqDiff, Nat.reduceLT, Nat.reduceLeDiff, Nat.reduceAdd, Nat.reduceMul, Nat.reduceSub, Nat.reduceBEq, Int.reduceToNat, Int.reduceLE, Int.reduceLT, Int.reduceNeg, Nat.reduceMod, sid_ne1, sid_ne2, sid_inj, sid_mod, gT, TK.isInt, TK.agg, Array.toList]
  refine loop_of (fun (za : Nat × Nat) s => match za with | (k, v) => s.sl 0 = u64 F ∧ s.sl 3 = .own 3 v ∧ s.rw 3 = ⟨v, .sli 3 1 false (iL (ofN (ordP F.testBit k 0)))⟩ ∧ s.sl 4 = int k ∧ (k ≤ 7)) (fun (k, v) => 7 - k) ((0, 1)) (by refine ⟨?_, ?_, ?_, ?_, by simp⟩ <;> (first | (simp (maxSteps := 5000000) -dsimp only [gr, Nat.reduceEqDiff, Nat.reduceLT, Nat.reduceAdd, Nat.reduceMod, Nat.reduceBEq, sid_mod, sid_ne1, sid_ne2, sid_inj]; first | done | rfl | (simp; done)) | assumption | rfl)) ?_
  intro (k, v) sa ⟨h0a, h3a, r3a, h4a, hIa⟩
  simp (maxSteps := 5000000) -dsimp only [↓gp, gq, reduceCtorEq, Nat.reduceEqDiff, Nat.reduceLT, Nat.reduceLeDiff, Nat.reduceAdd, Nat.reduceMul, Nat.reduceSub, Nat.reduceBEq, Int.reduceToNat, Int.reduceLE, Int.reduceLT, Int.reduceNeg, Nat.reduceMod, sid_ne1, sid_ne2, sid_inj, sid_mod, gT, TK.isInt, TK.agg, Array.toList, h0a, h3a, r3a, h4a]
  refine ⟨fun hk => ?_, fun hk => ?_⟩
  · refine loop_of (fun (zb : Nat × Nat) s => match zb with | (m, v) => s.sl 0 = u64 F ∧ s.sl 3 = .own 3 v ∧ s.rw 3 = ⟨v, .sli 3 1 false (iL (ofN (ordP F.testBit k m)))⟩ ∧ s.sl 4 = int k ∧ s.sl 5 = int m ∧ (m ≤ 64)) (fun (m, v) => 64 - m) ((0, v)) (by refine ⟨?_, ?_, ?_, ?_, ?_, by simp⟩ <;> (first | (simp (maxSteps := 5000000) -dsimp only [gr, Nat.reduceEqDiff, Nat.reduceLT, Nat.reduceAdd, Nat.reduceMod, Nat.reduceBEq, sid_mod, sid_ne1, sid_ne2, sid_inj, h0a, h3a, r3a, h4a]; first | done | rfl | (simp; done)) | assumption | rfl)) ?_
    intro (m, v) sb ⟨h0b, h3b, r3b, h4b, h5b, hIb⟩
    simp (maxSteps := 5000000) -dsimp only [↓gp, gq, reduceCtorEq, Nat.reduceEqDiff, Nat.reduceLT, Nat.reduceLeDiff, Nat.reduceAdd, Nat.reduceMul, Nat.reduceSub, Nat.reduceBEq, Int.reduceToNat, Int.reduceLE, Int.reduceLT, Int.reduceNeg, Nat.reduceMod, sid_ne1, sid_ne2, sid_inj, sid_mod, gT, TK.isInt, TK.agg, Array.toList, h0b, h3b, r3b, h4b, h5b]
    refine ⟨fun hm => ?_, fun hm => ?_⟩
    · have hm : m < 64 := by omega
      refine askK_of (c_impl_hasSet F m hF hm) ?_
      simp (maxSteps := 5000000) -dsimp only [↓gp, gq, reduceCtorEq, Nat.reduceEqDiff, Nat.reduceLT, Nat.reduceLeDiff, Nat.reduceAdd, Nat.reduceMul, Nat.reduceSub, Nat.reduceBEq, Int.reduceToNat, Int.reduceLE, Int.reduceLT, Int.reduceNeg, Nat.reduceMod, sid_ne1, sid_ne2, sid_inj, sid_mod, gT, TK.isInt, TK.agg, Array.toList, h0b, h3b, r3b, h4b, h5b]
      have hlen := ordP_len F.testBit k m
      have hz : szOf (m : Int) = (popN m : Nat) := by rw [szOf, if_pos (by omega)]; simp
      refine ⟨fun hf => askK_of (c_impl_SizeOf _) ?_, fun hf => ?_⟩
      · simp (maxSteps := 5000000) -dsimp only [↓gp, gq, reduceCtorEq, Nat.reduceEqDiff, Nat.reduceLT, Nat.reduceLeDiff, Nat.reduceAdd, Nat.reduceMul, Nat.reduceSub, Nat.reduceBEq, Int.reduceToNat, Int.reduceLE, Int.reduceLT, Int.reduceNeg, Nat.reduceMod, sid_ne1, sid_ne2, sid_inj, sid_mod, gT, TK.isInt, TK.agg, Array.toList, h0b, h3b, r3b, h4b, h5b, hz]
        refine ⟨fun hp => ?_, fun hp => ?_⟩
        · have hy : ordP F.testBit k (m + 1) = ordP F.testBit k m ++ [m] := ordP_yes (by rw [hf]; simp at hp ⊢; omega)
          refine ⟨by rw [ofN_length]; omega, ?_⟩
          exact again_of ((m + 1, v + 1)) (by refine ⟨?_, ?_, ?_, ?_, ?_, by omega⟩ <;> (first | (simp (maxSteps := 5000000) -dsimp only [gr, Nat.reduceEqDiff, Nat.reduceLT, Nat.reduceAdd, Nat.reduceMod, Nat.reduceBEq, sid_mod, sid_ne1, sid_ne2, sid_inj, h0b, h3b, r3b, h4b, h5b, wrap_nat hm (by omega), hy, ofN_append, ofN_one]; first | done | rfl | (simp; done)) | assumption | rfl)) (by first | omega | (simp only; omega) | (dsimp only; omega) | (show _ < _; simp; omega))
        · have hy : ordP F.testBit k (m + 1) = ordP F.testBit k m := ordP_no (by rw [hf]; simp at hp ⊢; omega)
          exact again_of ((m + 1, v)) (by refine ⟨?_, ?_, ?_, ?_, ?_, by omega⟩ <;> (first | (simp (maxSteps := 5000000) -dsimp only [gr, Nat.reduceEqDiff, Nat.reduceLT, Nat.reduceAdd, Nat.reduceMod, Nat.reduceBEq, sid_mod, sid_ne1, sid_ne2, sid_inj, h0b, h3b, r3b, h4b, h5b, wrap_nat hm (by omega), hy]; first | done | rfl | (simp; done)) | assumption | rfl)) (by first | omega | (simp only; omega) | (dsimp only; omega) | (show _ < _; simp; omega))
      · have hy : ordP F.testBit k (m + 1) = ordP F.testBit k m := ordP_no (by rw [hf]; rfl)
        exact again_of ((m + 1, v)) (by refine ⟨?_, ?_, ?_, ?_, ?_, by omega⟩ <;> (first | (simp (maxSteps := 5000000) -dsimp only [gr, Nat.reduceEqDiff, Nat.reduceLT, Nat.reduceAdd, Nat.reduceMod, Nat.reduceBEq, sid_mod, sid_ne1, sid_ne2, sid_inj, h0b, h3b, r3b, h4b, h5b, wrap_nat hm (by omega), hy]; first | done | rfl | (simp; done)) | assumption | rfl)) (by first | omega | (simp only; omega) | (dsimp only; omega) | (show _ < _; simp; omega))
    · have : m = 64 := by omega
      subst this
      have hk : k < 7 := by omega
      exact again_of ((k + 1, v)) (by refine ⟨?_, ?_, ?_, ?_, by omega⟩ <;> (first | (simp (maxSteps := 5000000) -dsimp only [gr, Nat.reduceEqDiff, Nat.reduceLT, Nat.reduceAdd, Nat.reduceMod, Nat.reduceBEq, sid_mod, sid_ne1, sid_ne2, sid_inj, h0a, h3a, r3a, h4a, h0b, h3b, r3b, h4b, h5b, wrap_nat hk (by omega), ordP_next]; first | done | rfl | (simp; done)) | assumption | rfl)) (by first | omega | (simp only; omega) | (dsimp only; omega) | (show _ < _; simp; omega))
  · have : k = 7 := by omega
    subst this
    rw [ordP_all]
/-- The list without what follows. -/
theorem split_at {l : List Nat} {k : Nat} (h : k < l.length) : l = l.take k ++ l.getD k 0 :: l.drop (k + 1) := by
  rw [← drop_step 0 h, List.take_append_drop]
theorem filt_yes {l : List Nat} {p : Nat → Bool} {k : Nat} (h : k < l.length) (hp : p (l.getD k 0) = true) : (l.take (k + 1)).filter p = (l.take k).filter p ++ [l.getD k 0] := by
  rw [take_snoc 0 h, List.filter_append]; simp only [List.filter_cons, hp, if_true, List.filter_nil]
theorem filt_no {l : List Nat} {p : Nat → Bool} {k : Nat} (h : k < l.length) (hp : p (l.getD k 0) = false) : (l.take (k + 1)).filter p = (l.take k).filter p := by
  rw [take_snoc 0 h, List.filter_append]; simp only [List.filter_cons, hp, Bool.false_eq_true, if_false, List.filter_nil, List.append_nil]
theorem filt_len {l : List Nat} {p : Nat → Bool} : (l.filter p).length ≤ l.length := List.length_filter_le _ _
/-- A list of sets as a family. -/
noncomputable def inF (xs : List Int) (s : Nat) : Bool := decide ((s : Int) ∈ xs)
noncomputable def hasRow (xs : List Int) (k : Nat) : List Bool := (List.range 64).map fun s => inF (xs.take k) s
theorem hasRow_length (xs : List Int) (k : Nat) : (hasRow xs k).length = 64 := by simp [hasRow]
theorem hasRow_zero (xs : List Int) : List.replicate 64 false = hasRow xs 0 := by
  refine List.ext_getElem (by simp [hasRow]) fun j h1 h2 => ?_
  rw [List.getElem_replicate]
  simp [hasRow, inF]
theorem hasRow_set {xs : List Int} {k : Nat} (h : k < xs.length) (hx : 0 ≤ xs.getD k 0 ∧ xs.getD k 0 < 64) : (hasRow xs k).set (xs.getD k 0).toNat true = hasRow xs (k + 1) := by
  refine List.ext_getElem (by simp [hasRow]) fun j h1 h2 => ?_
  simp only [hasRow, List.getElem_set, List.getElem_map, List.getElem_range]
  have e : inF (xs.take (k + 1)) j = (inF (xs.take k) j || decide ((j : Int) = xs.getD k 0)) := by
    unfold inF
    rw [take_snoc 0 h, ← Bool.decide_or]
    exact decide_eq_decide.2 (by simp only [List.mem_append, List.mem_singleton])
  rw [e]
  by_cases hj : (xs.getD k 0).toNat = j
  · rw [if_pos hj]
    have : (j : Int) = xs.getD k 0 := by omega
    simp only [this, decide_true, Bool.or_true]
  · rw [if_neg hj]
    have : ¬ (j : Int) = xs.getD k 0 := by omega
    simp only [this, decide_false, Bool.or_false]
theorem c_spec_l2Order (xs : List Int) (hx : ∀ x ∈ xs, 0 ≤ x ∧ x < 64) : AC Tryd.prog 82 [ints xs] (.fr 3 1 (iL (ofN (ordN (inF xs))))) := by
  refine AC.go (rs := [.tmp 2]) T_ok mixed Tryd.func82 rfl rfl rfl (by kernel_rfl) fun hl => ?_
  simp only [lens_cons, lens_nil, and_true, lens2_v, lens2_iL, true_and] at hl
  simp (maxSteps := 5000000) -dsimp only [↓gp, gq, reduceCtorEq, Nat.reduceEqDiff, Nat.reduceLT, Nat.reduceLeDiff, Nat.reduceAdd, Nat.reduceMul, Nat.reduceSub, Nat.reduceBEq, Int.reduceToNat, Int.reduceLE, Int.reduceLT, Int.reduceNeg, Nat.reduceMod, sid_ne1, sid_ne2, sid_inj, sid_mod, gT, TK.isInt, TK.agg, Array.toList]
  refine ⟨by decide, ?_⟩
  refine loop_of (fun (za : Nat × Nat) s => match za with | (k, v) => s.sl 0 = ints xs ∧ s.sl 3 = .own 8 v ∧ s.rw 8 = ⟨v, .sli 4 1 false (bL (hasRow xs k))⟩ ∧ s.sl 4 = int k ∧ (k ≤ xs.length)) (fun (k, v) => xs.length - k) ((0, 1)) (by refine ⟨?_, ?_, ?_, ?_, by simp⟩ <;> (first | (simp (maxSteps := 5000000) -dsimp only [gr, Nat.reduceEqDiff, Nat.reduceLT, Nat.reduceAdd, Nat.reduceMod, Nat.reduceBEq, sid_mod, sid_ne1, sid_ne2, sid_inj, bL_replicate, hasRow_zero, Int.reduceToNat]; first | done | rfl | (simp; done)) | assumption | rfl)) ?_
  intro (k, v) sa ⟨h0a, h3a, r8a, h4a, hIa⟩
  simp (maxSteps := 5000000) -dsimp only [↓gp, gq, reduceCtorEq, Nat.reduceEqDiff, Nat.reduceLT, Nat.reduceLeDiff, Nat.reduceAdd, Nat.reduceMul, Nat.reduceSub, Nat.reduceBEq, Int.reduceToNat, Int.reduceLE, Int.reduceLT, Int.reduceNeg, Nat.reduceMod, sid_ne1, sid_ne2, sid_inj, sid_mod, gT, TK.isInt, TK.agg, Array.toList, h0a, h3a, r8a, h4a, hasRow_length]
  refine ⟨fun hk => ?_, fun hk => ?_⟩
  · have hx1 := hx _ (getD_mem 0 hk)
    refine ⟨hk, hk, by omega, by omega, by omega, ?_⟩
    exact again_of ((k + 1, v)) (by refine ⟨?_, ?_, ?_, ?_, by omega⟩ <;> (first | (simp (maxSteps := 5000000) -dsimp only [gr, Nat.reduceEqDiff, Nat.reduceLT, Nat.reduceAdd, Nat.reduceMod, Nat.reduceBEq, sid_mod, sid_ne1, sid_ne2, sid_inj, h0a, h3a, r8a, h4a, wrap_nat hk hl, hasRow_set hk hx1]; first | done | rfl | (simp; done)) | assumption | rfl)) (by first | omega | (simp only; omega) | (dsimp only; omega) | (show _ < _; simp; omega))
  · have : k = xs.length := by omega
    subst this
    have hall : ∀ s, s < 64 → (hasRow xs xs.length).getD s false = inF xs s := fun s hs => by
      rw [getD_at false (by rw [hasRow_length]; exact hs)]
      simp [hasRow]
    have hrl := hasRow_length xs xs.length
    generalize hasRow xs xs.length = row at *
    refine loop_of (fun (zb : Nat × Nat × Nat) s => match zb with | (k, v, u) => s.sl 3 = .own 8 u ∧ s.rw 8 = ⟨u, .sli 4 1 false (bL row)⟩ ∧ s.sl 5 = .own 21 v ∧ s.rw 21 = ⟨v, .sli 3 1 false (iL (ofN (ordP (inF xs) k 0)))⟩ ∧ s.sl 6 = int k ∧ (k ≤ 7)) (fun (k, v, u) => 7 - k) ((0, (sa.rw 21).ver + 1, v)) (by refine ⟨?_, ?_, ?_, ?_, ?_, by simp⟩ <;> (first | (simp (maxSteps := 5000000) -dsimp only [gr, Nat.reduceEqDiff, Nat.reduceLT, Nat.reduceAdd, Nat.reduceMod, Nat.reduceBEq, sid_mod, sid_ne1, sid_ne2, sid_inj, h0a, h3a, r8a, h4a]; first | done | rfl | (simp; done)) | assumption | rfl)) ?_
    intro (k, v, u) sb ⟨h3b, r8b, h5b, r21b, h6b, hIb⟩
    simp (maxSteps := 5000000) -dsimp only [↓gp, gq, reduceCtorEq, Nat.reduceEqDiff, Nat.reduceLT, Nat.reduceLeDiff, Nat.reduceAdd, Nat.reduceMul, Nat.reduceSub, Nat.reduceBEq, Int.reduceToNat, Int.reduceLE, Int.reduceLT, Int.reduceNeg, Nat.reduceMod, sid_ne1, sid_ne2, sid_inj, sid_mod, gT, TK.isInt, TK.agg, Array.toList, h3b, r8b, h5b, r21b, h6b]
    refine ⟨fun hk => ?_, fun hk => ?_⟩
    · refine loop_of (fun (zc : Nat × Nat) s => match zc with | (m, v) => s.sl 3 = .own 8 u ∧ s.rw 8 = ⟨u, .sli 4 1 false (bL row)⟩ ∧ s.sl 5 = .own 21 v ∧ s.rw 21 = ⟨v, .sli 3 1 false (iL (ofN (ordP (inF xs) k m)))⟩ ∧ s.sl 6 = int k ∧ s.sl 7 = int m ∧ (m ≤ 64)) (fun (m, v) => 64 - m) ((0, v)) (by refine ⟨?_, ?_, ?_, ?_, ?_, ?_, by simp⟩ <;> (first | (simp (maxSteps := 5000000) -dsimp only [gr, Nat.reduceEqDiff, Nat.reduceLT, Nat.reduceAdd, Nat.reduceMod, Nat.reduceBEq, sid_mod, sid_ne1, sid_ne2, sid_inj, h3b, r8b, h5b, r21b, h6b]; first | done | rfl | (simp; done)) | assumption | rfl)) ?_
      intro (m, v) sc ⟨h3c, r8c, h5c, r21c, h6c, h7c, hIc⟩
      simp (maxSteps := 5000000) -dsimp only [↓gp, gq, reduceCtorEq, Nat.reduceEqDiff, Nat.reduceLT, Nat.reduceLeDiff, Nat.reduceAdd, Nat.reduceMul, Nat.reduceSub, Nat.reduceBEq, Int.reduceToNat, Int.reduceLE, Int.reduceLT, Int.reduceNeg, Nat.reduceMod, sid_ne1, sid_ne2, sid_inj, sid_mod, gT, TK.isInt, TK.agg, Array.toList, h3c, r8c, h5c, r21c, h6c, h7c, hrl]
      have hlen := ordP_len (inF xs) k m
      refine ⟨fun hm => ⟨by omega, by omega, ?_⟩, fun hm => ?_⟩
      · have hm : m < 64 := by omega
        rw [hall m hm]
        refine ⟨fun hf => askK_of (c_spec_l2Sizei (by omega) (by omega)) ?_, fun hf => ?_⟩
        · simp (maxSteps := 5000000) -dsimp only [↓gp, gq, reduceCtorEq, Nat.reduceEqDiff, Nat.reduceLT, Nat.reduceLeDiff, Nat.reduceAdd, Nat.reduceMul, Nat.reduceSub, Nat.reduceBEq, Int.reduceToNat, Int.reduceLE, Int.reduceLT, Int.reduceNeg, Nat.reduceMod, sid_ne1, sid_ne2, sid_inj, sid_mod, gT, TK.isInt, TK.agg, Array.toList, h3c, r8c, h5c, r21c, h6c, h7c, Int.toNat_natCast]
          refine ⟨fun hp => ?_, fun hp => ?_⟩
          · have hy : ordP (inF xs) k (m + 1) = ordP (inF xs) k m ++ [m] := ordP_yes (by rw [hf]; simp at hp ⊢; omega)
            refine ⟨by rw [ofN_length]; omega, ?_⟩
            exact again_of ((m + 1, v + 1)) (by refine ⟨?_, ?_, ?_, ?_, ?_, ?_, by omega⟩ <;> (first | (simp (maxSteps := 5000000) -dsimp only [gr, Nat.reduceEqDiff, Nat.reduceLT, Nat.reduceAdd, Nat.reduceMod, Nat.reduceBEq, sid_mod, sid_ne1, sid_ne2, sid_inj, h3c, r8c, h5c, r21c, h6c, h7c, wrap_nat hm (by omega), hy, ofN_append, ofN_one]; first | done | rfl | (simp; done)) | assumption | rfl)) (by first | omega | (simp only; omega) | (dsimp only; omega) | (show _ < _; simp; omega))
          · have hy : ordP (inF xs) k (m + 1) = ordP (inF xs) k m := ordP_no (by rw [hf]; simp at hp ⊢; omega)
            exact again_of ((m + 1, v)) (by refine ⟨?_, ?_, ?_, ?_, ?_, ?_, by omega⟩ <;> (first | (simp (maxSteps := 5000000) -dsimp only [gr, Nat.reduceEqDiff, Nat.reduceLT, Nat.reduceAdd, Nat.reduceMod, Nat.reduceBEq, sid_mod, sid_ne1, sid_ne2, sid_inj, h3c, r8c, h5c, r21c, h6c, h7c, wrap_nat hm (by omega), hy]; first | done | rfl | (simp; done)) | assumption | rfl)) (by first | omega | (simp only; omega) | (dsimp only; omega) | (show _ < _; simp; omega))
        · have hy : ordP (inF xs) k (m + 1) = ordP (inF xs) k m := ordP_no (by rw [hf]; rfl)
          exact again_of ((m + 1, v)) (by refine ⟨?_, ?_, ?_, ?_, ?_, ?_, by omega⟩ <;> (first | (simp (maxSteps := 5000000) -dsimp only [gr, Nat.reduceEqDiff, Nat.reduceLT, Nat.reduceAdd, Nat.reduceMod, Nat.reduceBEq, sid_mod, sid_ne1, sid_ne2, sid_inj, h3c, r8c, h5c, r21c, h6c, h7c, wrap_nat hm (by omega), hy]; first | done | rfl | (simp; done)) | assumption | rfl)) (by first | omega | (simp only; omega) | (dsimp only; omega) | (show _ < _; simp; omega))
      · have : m = 64 := by omega
        subst this
        have hk : k < 7 := by omega
        exact again_of ((k + 1, v, u)) (by refine ⟨?_, ?_, ?_, ?_, ?_, by omega⟩ <;> (first | (simp (maxSteps := 5000000) -dsimp only [gr, Nat.reduceEqDiff, Nat.reduceLT, Nat.reduceAdd, Nat.reduceMod, Nat.reduceBEq, sid_mod, sid_ne1, sid_ne2, sid_inj, h3b, r8b, h5b, r21b, h6b, h3c, r8c, h5c, r21c, h6c, h7c, wrap_nat hk (by omega), ordP_next]; first | done | rfl | (simp; done)) | assumption | rfl)) (by first | omega | (simp only; omega) | (dsimp only; omega) | (show _ < _; simp; omega))
    · have : k = 7 := by omega
      subst this
      rw [ordP_all]
theorem c_spec_l2Extreme (g : Bool) (xs : List Int) (hx : ∀ x ∈ xs, 0 ≤ x ∧ x < 64) : AC Tryd.prog 83 [ints xs, bool g] (.fr 3 1 (iL (ofN (extN (inF xs) g)))) := by
  refine AC.go (rs := [.tmp 4]) T_ok mixed Tryd.func83 rfl rfl rfl (by kernel_rfl) fun hl => ?_
  simp only [lens_cons, lens_nil, and_true, lens2_v, lens2_iL, true_and] at hl
  simp (maxSteps := 5000000) -dsimp only [↓gp, gq, reduceCtorEq, Nat.reduceEqDiff, Nat.reduceLT, Nat.reduceLeDiff, Nat.reduceAdd, Nat.reduceMul, Nat.reduceSub, Nat.reduceBEq, Int.reduceToNat, Int.reduceLE, Int.reduceLT, Int.reduceNeg, Nat.reduceMod, sid_ne1, sid_ne2, sid_inj, sid_mod, gT, TK.isInt, TK.agg, Array.toList]
  refine askK_of (c_spec_l2Order xs hx) ?_
  simp (maxSteps := 5000000) -dsimp only [↓gp, gq, reduceCtorEq, Nat.reduceEqDiff, Nat.reduceLT, Nat.reduceLeDiff, Nat.reduceAdd, Nat.reduceMul, Nat.reduceSub, Nat.reduceBEq, Int.reduceToNat, Int.reduceLE, Int.reduceLT, Int.reduceNeg, Nat.reduceMod, sid_ne1, sid_ne2, sid_inj, sid_mod, gT, TK.isInt, TK.agg, Array.toList]
  have hfull := ordN_len (inF xs)
  have hmemf : ∀ t, t ∈ ordN (inF xs) ↔ t < 64 ∧ inF xs t = true := fun t => mem_ordN
  unfold extN
  have hext : ∀ s, s < 64 → (extB (inF xs) g s = true ↔ ∀ t, t ∈ ordN (inF xs) → (if g = true then s &&& t = s else t &&& s = t) → t = s) := fun s hs => by
    cases g with
    | true => rw [extB_iff']; simp only [if_true]; exact ⟨fun h t ht => h t ((hmemf t).1 ht).1 ((hmemf t).1 ht).2, fun h t h1 h2 => h t ((hmemf t).2 ⟨h1, h2⟩)⟩
    | false => rw [extB_iff]; simp only [Bool.false_eq_true, if_false]; exact ⟨fun h t ht => h t ((hmemf t).1 ht).1 ((hmemf t).1 ht).2, fun h t h1 h2 => h t ((hmemf t).2 ⟨h1, h2⟩)⟩
  generalize ordN (inF xs) = all at *
  have hmem : ∀ k, k < all.length → all.getD k 0 < 64 := fun k hk => ((hmemf _).1 (getD_mem 0 hk)).1
  refine loop_of (fun (za : Nat × Nat × Nat) s => match za with | (k, v, u) => s.sl 1 = bool g ∧ s.sl 5 = .own 13 u ∧ s.rw 13 = ⟨u, .sli 3 1 false (iL (ofN all))⟩ ∧ s.sl 6 = .own 14 v ∧ s.rw 14 = ⟨v, .sli 3 1 false (iL (ofN ((all.take k).filter (extB (inF xs) g))))⟩ ∧ s.sl 7 = int k ∧ (k ≤ all.length)) (fun (k, v, u) => all.length - k) ((0, 1, 1)) (by refine ⟨?_, ?_, ?_, ?_, ?_, ?_, by simp⟩ <;> (first | (simp (maxSteps := 5000000) -dsimp only [gr, Nat.reduceEqDiff, Nat.reduceLT, Nat.reduceAdd, Nat.reduceMod, Nat.reduceBEq, sid_mod, sid_ne1, sid_ne2, sid_inj]; first | done | rfl | (simp; done)) | assumption | rfl)) ?_
  intro (k, v, u) sa ⟨h1a, h5a, r13a, h6a, r14a, h7a, hIa⟩
  simp (maxSteps := 5000000) -dsimp only [↓gp, gq, reduceCtorEq, Nat.reduceEqDiff, Nat.reduceLT, Nat.reduceLeDiff, Nat.reduceAdd, Nat.reduceMul, Nat.reduceSub, Nat.reduceBEq, Int.reduceToNat, Int.reduceLE, Int.reduceLT, Int.reduceNeg, Nat.reduceMod, sid_ne1, sid_ne2, sid_inj, sid_mod, gT, TK.isInt, TK.agg, Array.toList, h1a, h5a, r13a, h6a, r14a, h7a, ofN_length]
  have hol : ((all.take k).filter (extB (inF xs) g)).length ≤ k := Nat.le_trans filt_len (by simp; omega)
  refine ⟨fun hk => ?_, fun hk => ?_⟩
  · have hs := hmem k hk
    refine loop_of (fun (zb : Nat × Bool) s => match zb with | (j, fine) => s.sl 1 = bool g ∧ s.sl 5 = .own 13 u ∧ s.rw 13 = ⟨u, .sli 3 1 false (iL (ofN all))⟩ ∧ s.sl 6 = .own 14 v ∧ s.rw 14 = ⟨v, .sli 3 1 false (iL (ofN ((all.take k).filter (extB (inF xs) g))))⟩ ∧ s.sl 7 = int k ∧ s.sl 8 = bool fine ∧ s.sl 9 = int j ∧ (j ≤ all.length ∧ (fine = true ↔ ∀ i, i < j → (if g = true then all.getD k 0 &&& all.getD i 0 = all.getD k 0 else all.getD i 0 &&& all.getD k 0 = all.getD i 0) → all.getD i 0 = all.getD k 0))) (fun (j, fine) => all.length - j) ((0, true)) (by refine ⟨?_, ?_, ?_, ?_, ?_, ?_, ?_, ?_, by simp⟩ <;> (first | (simp (maxSteps := 5000000) -dsimp only [gr, Nat.reduceEqDiff, Nat.reduceLT, Nat.reduceAdd, Nat.reduceMod, Nat.reduceBEq, sid_mod, sid_ne1, sid_ne2, sid_inj, h1a, h5a, r13a, h6a, r14a, h7a]; first | done | rfl | (simp; done)) | assumption | rfl)) ?_
    intro (j, fine) sb ⟨h1b, h5b, r13b, h6b, r14b, h7b, h8b, h9b, hIb⟩
    obtain ⟨hj, hfine⟩ := hIb
    have ek : (ofN all).getD k 0 = ((all.getD k 0 : Nat) : Int) := ofN_getD hk
    have ej : j < all.length → (ofN all).getD j 0 = ((all.getD j 0 : Nat) : Int) := fun h => ofN_getD h
    have eand : j < all.length → iand .i64 ((ofN all).getD k 0) ((ofN all).getD j 0) = ((all.getD k 0 &&& all.getD j 0 : Nat) : Int) := fun h => by
      have := hmem j h
      rw [ek, ej h, iand_nat (by omega) (by omega)]
    have hend : j = all.length → (fine = true ↔ extB (inF xs) g (all.getD k 0) = true) := fun h => by
      rw [hfine, hext _ hs]
      exact ⟨fun h2 t ht => by obtain ⟨i, hi, rfl⟩ := mem_getD 0 ht; exact h2 i (by omega), fun h2 i hi => h2 _ (getD_mem 0 (by omega))⟩
    have hend2 : j = all.length → fine = false → extB (inF xs) g (all.getD k 0) = false := fun h hf => by
      cases hb : extB (inF xs) g (all.getD k 0) with
      | false => rfl
      | true => rw [(hend h).2 hb] at hf; cases hf
    have pfT : (if g = true then all.getD k 0 &&& all.getD j 0 = all.getD k 0 else all.getD j 0 &&& all.getD k 0 = all.getD j 0) → all.getD j 0 ≠ all.getD k 0 → (false = true ↔ ∀ i, i < j + 1 → (if g = true then all.getD k 0 &&& all.getD i 0 = all.getD k 0 else all.getD i 0 &&& all.getD k 0 = all.getD i 0) → all.getD i 0 = all.getD k 0) := fun hr hne =>
      ⟨fun h => (by cases h), fun h => absurd (h j (by omega) hr) hne⟩
    have pfF : (¬ (if g = true then all.getD k 0 &&& all.getD j 0 = all.getD k 0 else all.getD j 0 &&& all.getD k 0 = all.getD j 0) ∨ all.getD j 0 = all.getD k 0) → (fine = true ↔ ∀ i, i < j + 1 → (if g = true then all.getD k 0 &&& all.getD i 0 = all.getD k 0 else all.getD i 0 &&& all.getD k 0 = all.getD i 0) → all.getD i 0 = all.getD k 0) := fun hr => by
      rw [hfine]
      constructor
      · intro h i hi
        rcases Nat.lt_succ_iff_lt_or_eq.1 hi with hi | rfl
        · exact h i hi
        · exact fun h2 => hr.elim (fun h3 => absurd h2 h3) id
      · intro h i hi; exact h i (by omega)
    cases g with
    | true =>
      simp (maxSteps := 5000000) -dsimp only [↓gp, gq, reduceCtorEq, Nat.reduceEqDiff, Nat.reduceLT, Nat.reduceLeDiff, Nat.reduceAdd, Nat.reduceMul, Nat.reduceSub, Nat.reduceBEq, Int.reduceToNat, Int.reduceLE, Int.reduceLT, Int.reduceNeg, Nat.reduceMod, sid_ne1, sid_ne2, sid_inj, sid_mod, gT, TK.isInt, TK.agg, Array.toList, h1b, h5b, r13b, h6b, r14b, h7b, h8b, h9b, ofN_length]
      refine ⟨fun h2 => ⟨hk, hk, h2, h2, fun hne => ⟨fun he => again_of ((j + 1, fine)) ⟨(by (first | (simp (maxSteps := 5000000) -dsimp only [gr, Nat.reduceEqDiff, Nat.reduceLT, Nat.reduceAdd, Nat.reduceMod, Nat.reduceBEq, sid_mod, sid_ne1, sid_ne2, sid_inj, h1b, h5b, r13b, h6b, r14b, h7b, h8b, h9b, wrap_nat h2 (by omega)]; first | done | rfl | (simp; done)) | assumption | rfl)), (by (first | (simp (maxSteps := 5000000) -dsimp only [gr, Nat.reduceEqDiff, Nat.reduceLT, Nat.reduceAdd, Nat.reduceMod, Nat.reduceBEq, sid_mod, sid_ne1, sid_ne2, sid_inj, h1b, h5b, r13b, h6b, r14b, h7b, h8b, h9b, wrap_nat h2 (by omega)]; first | done | rfl | (simp; done)) | assumption | rfl)), (by (first | (simp (maxSteps := 5000000) -dsimp only [gr, Nat.reduceEqDiff, Nat.reduceLT, Nat.reduceAdd, Nat.reduceMod, Nat.reduceBEq, sid_mod, sid_ne1, sid_ne2, sid_inj, h1b, h5b, r13b, h6b, r14b, h7b, h8b, h9b, wrap_nat h2 (by omega)]; first | done | rfl | (simp; done)) | assumption | rfl)), (by (first | (simp (maxSteps := 5000000) -dsimp only [gr, Nat.reduceEqDiff, Nat.reduceLT, Nat.reduceAdd, Nat.reduceMod, Nat.reduceBEq, sid_mod, sid_ne1, sid_ne2, sid_inj, h1b, h5b, r13b, h6b, r14b, h7b, h8b, h9b, wrap_nat h2 (by omega)]; first | done | rfl | (simp; done)) | assumption | rfl)), (by (first | (simp (maxSteps := 5000000) -dsimp only [gr, Nat.reduceEqDiff, Nat.reduceLT, Nat.reduceAdd, Nat.reduceMod, Nat.reduceBEq, sid_mod, sid_ne1, sid_ne2, sid_inj, h1b, h5b, r13b, h6b, r14b, h7b, h8b, h9b, wrap_nat h2 (by omega)]; first | done | rfl | (simp; done)) | assumption | rfl)), (by (first | (simp (maxSteps := 5000000) -dsimp only [gr, Nat.reduceEqDiff, Nat.reduceLT, Nat.reduceAdd, Nat.reduceMod, Nat.reduceBEq, sid_mod, sid_ne1, sid_ne2, sid_inj, h1b, h5b, r13b, h6b, r14b, h7b, h8b, h9b, wrap_nat h2 (by omega)]; first | done | rfl | (simp; done)) | assumption | rfl)), (by (first | (simp (maxSteps := 5000000) -dsimp only [gr, Nat.reduceEqDiff, Nat.reduceLT, Nat.reduceAdd, Nat.reduceMod, Nat.reduceBEq, sid_mod, sid_ne1, sid_ne2, sid_inj, h1b, h5b, r13b, h6b, r14b, h7b, h8b, h9b, wrap_nat h2 (by omega)]; first | done | rfl | (simp; done)) | assumption | rfl)), (by (first | (simp (maxSteps := 5000000) -dsimp only [gr, Nat.reduceEqDiff, Nat.reduceLT, Nat.reduceAdd, Nat.reduceMod, Nat.reduceBEq, sid_mod, sid_ne1, sid_ne2, sid_inj, h1b, h5b, r13b, h6b, r14b, h7b, h8b, h9b, wrap_nat h2 (by omega)]; first | done | rfl | (simp; done)) | assumption | rfl)), ⟨by omega, pfF (.inl ?_)⟩⟩ (by first | omega | (simp only; omega) | (dsimp only; omega) | (show _ < _; simp; omega)), fun he => again_of ((j + 1, false)) ⟨(by (first | (simp (maxSteps := 5000000) -dsimp only [gr, Nat.reduceEqDiff, Nat.reduceLT, Nat.reduceAdd, Nat.reduceMod, Nat.reduceBEq, sid_mod, sid_ne1, sid_ne2, sid_inj, h1b, h5b, r13b, h6b, r14b, h7b, h8b, h9b, wrap_nat h2 (by omega)]; first | done | rfl | (simp; done)) | assumption | rfl)), (by (first | (simp (maxSteps := 5000000) -dsimp only [gr, Nat.reduceEqDiff, Nat.reduceLT, Nat.reduceAdd, Nat.reduceMod, Nat.reduceBEq, sid_mod, sid_ne1, sid_ne2, sid_inj, h1b, h5b, r13b, h6b, r14b, h7b, h8b, h9b, wrap_nat h2 (by omega)]; first | done | rfl | (simp; done)) | assumption | rfl)), (by (first | (simp (maxSteps := 5000000) -dsimp only [gr, Nat.reduceEqDiff, Nat.reduceLT, Nat.reduceAdd, Nat.reduceMod, Nat.reduceBEq, sid_mod, sid_ne1, sid_ne2, sid_inj, h1b, h5b, r13b, h6b, r14b, h7b, h8b, h9b, wrap_nat h2 (by omega)]; first | done | rfl | (simp; done)) | assumption | rfl)), (by (first | (simp (maxSteps := 5000000) -dsimp only [gr, Nat.reduceEqDiff, Nat.reduceLT, Nat.reduceAdd, Nat.reduceMod, Nat.reduceBEq, sid_mod, sid_ne1, sid_ne2, sid_inj, h1b, h5b, r13b, h6b, r14b, h7b, h8b, h9b, wrap_nat h2 (by omega)]; first | done | rfl | (simp; done)) | assumption | rfl)), (by (first | (simp (maxSteps := 5000000) -dsimp only [gr, Nat.reduceEqDiff, Nat.reduceLT, Nat.reduceAdd, Nat.reduceMod, Nat.reduceBEq, sid_mod, sid_ne1, sid_ne2, sid_inj, h1b, h5b, r13b, h6b, r14b, h7b, h8b, h9b, wrap_nat h2 (by omega)]; first | done | rfl | (simp; done)) | assumption | rfl)), (by (first | (simp (maxSteps := 5000000) -dsimp only [gr, Nat.reduceEqDiff, Nat.reduceLT, Nat.reduceAdd, Nat.reduceMod, Nat.reduceBEq, sid_mod, sid_ne1, sid_ne2, sid_inj, h1b, h5b, r13b, h6b, r14b, h7b, h8b, h9b, wrap_nat h2 (by omega)]; first | done | rfl | (simp; done)) | assumption | rfl)), (by (first | (simp (maxSteps := 5000000) -dsimp only [gr, Nat.reduceEqDiff, Nat.reduceLT, Nat.reduceAdd, Nat.reduceMod, Nat.reduceBEq, sid_mod, sid_ne1, sid_ne2, sid_inj, h1b, h5b, r13b, h6b, r14b, h7b, h8b, h9b, wrap_nat h2 (by omega)]; first | done | rfl | (simp; done)) | assumption | rfl)), (by (first | (simp (maxSteps := 5000000) -dsimp only [gr, Nat.reduceEqDiff, Nat.reduceLT, Nat.reduceAdd, Nat.reduceMod, Nat.reduceBEq, sid_mod, sid_ne1, sid_ne2, sid_inj, h1b, h5b, r13b, h6b, r14b, h7b, h8b, h9b, wrap_nat h2 (by omega)]; first | done | rfl | (simp; done)) | assumption | rfl)), ⟨by omega, pfT ?_ ?_⟩⟩ (by first | omega | (simp only; omega) | (dsimp only; omega) | (show _ < _; simp; omega))⟩, fun hne => again_of ((j + 1, fine)) ⟨(by (first | (simp (maxSteps := 5000000) -dsimp only [gr, Nat.reduceEqDiff, Nat.reduceLT, Nat.reduceAdd, Nat.reduceMod, Nat.reduceBEq, sid_mod, sid_ne1, sid_ne2, sid_inj, h1b, h5b, r13b, h6b, r14b, h7b, h8b, h9b, wrap_nat h2 (by omega)]; first | done | rfl | (simp; done)) | assumption | rfl)), (by (first | (simp (maxSteps := 5000000) -dsimp only [gr, Nat.reduceEqDiff, Nat.reduceLT, Nat.reduceAdd, Nat.reduceMod, Nat.reduceBEq, sid_mod, sid_ne1, sid_ne2, sid_inj, h1b, h5b, r13b, h6b, r14b, h7b, h8b, h9b, wrap_nat h2 (by omega)]; first | done | rfl | (simp; done)) | assumption | rfl)), (by (first | (simp (maxSteps := 5000000) -dsimp only [gr, Nat.reduceEqDiff, Nat.reduceLT, Nat.reduceAdd, Nat.reduceMod, Nat.reduceBEq, sid_mod, sid_ne1, sid_ne2, sid_inj, h1b, h5b, r13b, h6b, r14b, h7b, h8b, h9b, wrap_nat h2 (by omega)]; first | done | rfl | (simp; done)) | assumption | rfl)), (by (first | (simp (maxSteps := 5000000) -dsimp only [gr, Nat.reduceEqDiff, Nat.reduceLT, Nat.reduceAdd, Nat.reduceMod, Nat.reduceBEq, sid_mod, sid_ne1, sid_ne2, sid_inj, h1b, h5b, r13b, h6b, r14b, h7b, h8b, h9b, wrap_nat h2 (by omega)]; first | done | rfl | (simp; done)) | assumption | rfl)), (by (first | (simp (maxSteps := 5000000) -dsimp only [gr, Nat.reduceEqDiff, Nat.reduceLT, Nat.reduceAdd, Nat.reduceMod, Nat.reduceBEq, sid_mod, sid_ne1, sid_ne2, sid_inj, h1b, h5b, r13b, h6b, r14b, h7b, h8b, h9b, wrap_nat h2 (by omega)]; first | done | rfl | (simp; done)) | assumption | rfl)), (by (first | (simp (maxSteps := 5000000) -dsimp only [gr, Nat.reduceEqDiff, Nat.reduceLT, Nat.reduceAdd, Nat.reduceMod, Nat.reduceBEq, sid_mod, sid_ne1, sid_ne2, sid_inj, h1b, h5b, r13b, h6b, r14b, h7b, h8b, h9b, wrap_nat h2 (by omega)]; first | done | rfl | (simp; done)) | assumption | rfl)), (by (first | (simp (maxSteps := 5000000) -dsimp only [gr, Nat.reduceEqDiff, Nat.reduceLT, Nat.reduceAdd, Nat.reduceMod, Nat.reduceBEq, sid_mod, sid_ne1, sid_ne2, sid_inj, h1b, h5b, r13b, h6b, r14b, h7b, h8b, h9b, wrap_nat h2 (by omega)]; first | done | rfl | (simp; done)) | assumption | rfl)), (by (first | (simp (maxSteps := 5000000) -dsimp only [gr, Nat.reduceEqDiff, Nat.reduceLT, Nat.reduceAdd, Nat.reduceMod, Nat.reduceBEq, sid_mod, sid_ne1, sid_ne2, sid_inj, h1b, h5b, r13b, h6b, r14b, h7b, h8b, h9b, wrap_nat h2 (by omega)]; first | done | rfl | (simp; done)) | assumption | rfl)), ⟨by omega, pfF (.inr ?_)⟩⟩ (by first | omega | (simp only; omega) | (dsimp only; omega) | (show _ < _; simp; omega))⟩, fun h2 => ?_⟩
      · rw [eand h2, ek] at he
        simp only [if_true]
        intro e; rw [e] at he; simp at he
      · rw [eand h2, ek] at he
        have := beq_iff_eq.1 he
        simp only [if_true]; omega
      · rw [ek, ej h2] at hne
        intro e; rw [e] at hne; simp at hne
      · rw [ek, ej h2] at hne
        have := bne_eq_false_iff_eq.1 hne
        omega
      · refine ⟨fun hf => ⟨hk, hk, by omega, ?_⟩, fun hf => ?_⟩
        · have hx := (hend (by omega)).1 hf
          exact again_of ((k + 1, v + 1, u)) (by refine ⟨?_, ?_, ?_, ?_, ?_, ?_, by omega⟩ <;> (first | (simp (maxSteps := 5000000) -dsimp only [gr, Nat.reduceEqDiff, Nat.reduceLT, Nat.reduceAdd, Nat.reduceMod, Nat.reduceBEq, sid_mod, sid_ne1, sid_ne2, sid_inj, h1a, h5a, r13a, h6a, r14a, h7a, h1b, h5b, r13b, h6b, r14b, h7b, h8b, h9b, wrap_nat hk (by omega), filt_yes hk hx, ofN_append, ofN_one, ek]; first | done | rfl | (simp; done)) | assumption | rfl)) (by first | omega | (simp only; omega) | (dsimp only; omega) | (show _ < _; simp; omega))
        · have hx := hend2 (by omega) hf
          exact again_of ((k + 1, v, u)) (by refine ⟨?_, ?_, ?_, ?_, ?_, ?_, by omega⟩ <;> (first | (simp (maxSteps := 5000000) -dsimp only [gr, Nat.reduceEqDiff, Nat.reduceLT, Nat.reduceAdd, Nat.reduceMod, Nat.reduceBEq, sid_mod, sid_ne1, sid_ne2, sid_inj, h1a, h5a, r13a, h6a, r14a, h7a, h1b, h5b, r13b, h6b, r14b, h7b, h8b, h9b, wrap_nat hk (by omega), filt_no hk hx]; first | done | rfl | (simp; done)) | assumption | rfl)) (by first | omega | (simp only; omega) | (dsimp only; omega) | (show _ < _; simp; omega))
    | false =>
      simp (maxSteps := 5000000) -dsimp only [↓gp, gq, reduceCtorEq, Nat.reduceEqDiff, Nat.reduceLT, Nat.reduceLeDiff, Nat.reduceAdd, Nat.reduceMul, Nat.reduceSub, Nat.reduceBEq, Int.reduceToNat, Int.reduceLE, Int.reduceLT, Int.reduceNeg, Nat.reduceMod, sid_ne1, sid_ne2, sid_inj, sid_mod, gT, TK.isInt, TK.agg, Array.toList, h1b, h5b, r13b, h6b, r14b, h7b, h8b, h9b, ofN_length]
      refine ⟨fun h2 => ⟨hk, hk, h2, h2, fun hne => ⟨fun he => again_of ((j + 1, false)) ⟨(by (first | (simp (maxSteps := 5000000) -dsimp only [gr, Nat.reduceEqDiff, Nat.reduceLT, Nat.reduceAdd, Nat.reduceMod, Nat.reduceBEq, sid_mod, sid_ne1, sid_ne2, sid_inj, h1b, h5b, r13b, h6b, r14b, h7b, h8b, h9b, wrap_nat h2 (by omega)]; first | done | rfl | (simp; done)) | assumption | rfl)), (by (first | (simp (maxSteps := 5000000) -dsimp only [gr, Nat.reduceEqDiff, Nat.reduceLT, Nat.reduceAdd, Nat.reduceMod, Nat.reduceBEq, sid_mod, sid_ne1, sid_ne2, sid_inj, h1b, h5b, r13b, h6b, r14b, h7b, h8b, h9b, wrap_nat h2 (by omega)]; first | done | rfl | (simp; done)) | assumption | rfl)), (by (first | (simp (maxSteps := 5000000) -dsimp only [gr, Nat.reduceEqDiff, Nat.reduceLT, Nat.reduceAdd, Nat.reduceMod, Nat.reduceBEq, sid_mod, sid_ne1, sid_ne2, sid_inj, h1b, h5b, r13b, h6b, r14b, h7b, h8b, h9b, wrap_nat h2 (by omega)]; first | done | rfl | (simp; done)) | assumption | rfl)), (by (first | (simp (maxSteps := 5000000) -dsimp only [gr, Nat.reduceEqDiff, Nat.reduceLT, Nat.reduceAdd, Nat.reduceMod, Nat.reduceBEq, sid_mod, sid_ne1, sid_ne2, sid_inj, h1b, h5b, r13b, h6b, r14b, h7b, h8b, h9b, wrap_nat h2 (by omega)]; first | done | rfl | (simp; done)) | assumption | rfl)), (by (first | (simp (maxSteps := 5000000) -dsimp only [gr, Nat.reduceEqDiff, Nat.reduceLT, Nat.reduceAdd, Nat.reduceMod, Nat.reduceBEq, sid_mod, sid_ne1, sid_ne2, sid_inj, h1b, h5b, r13b, h6b, r14b, h7b, h8b, h9b, wrap_nat h2 (by omega)]; first | done | rfl | (simp; done)) | assumption | rfl)), (by (first | (simp (maxSteps := 5000000) -dsimp only [gr, Nat.reduceEqDiff, Nat.reduceLT, Nat.reduceAdd, Nat.reduceMod, Nat.reduceBEq, sid_mod, sid_ne1, sid_ne2, sid_inj, h1b, h5b, r13b, h6b, r14b, h7b, h8b, h9b, wrap_nat h2 (by omega)]; first | done | rfl | (simp; done)) | assumption | rfl)), (by (first | (simp (maxSteps := 5000000) -dsimp only [gr, Nat.reduceEqDiff, Nat.reduceLT, Nat.reduceAdd, Nat.reduceMod, Nat.reduceBEq, sid_mod, sid_ne1, sid_ne2, sid_inj, h1b, h5b, r13b, h6b, r14b, h7b, h8b, h9b, wrap_nat h2 (by omega)]; first | done | rfl | (simp; done)) | assumption | rfl)), (by (first | (simp (maxSteps := 5000000) -dsimp only [gr, Nat.reduceEqDiff, Nat.reduceLT, Nat.reduceAdd, Nat.reduceMod, Nat.reduceBEq, sid_mod, sid_ne1, sid_ne2, sid_inj, h1b, h5b, r13b, h6b, r14b, h7b, h8b, h9b, wrap_nat h2 (by omega)]; first | done | rfl | (simp; done)) | assumption | rfl)), ⟨by omega, pfT ?_ ?_⟩⟩ (by first | omega | (simp only; omega) | (dsimp only; omega) | (show _ < _; simp; omega)), fun he => again_of ((j + 1, fine)) ⟨(by (first | (simp (maxSteps := 5000000) -dsimp only [gr, Nat.reduceEqDiff, Nat.reduceLT, Nat.reduceAdd, Nat.reduceMod, Nat.reduceBEq, sid_mod, sid_ne1, sid_ne2, sid_inj, h1b, h5b, r13b, h6b, r14b, h7b, h8b, h9b, wrap_nat h2 (by omega)]; first | done | rfl | (simp; done)) | assumption | rfl)), (by (first | (simp (maxSteps := 5000000) -dsimp only [gr, Nat.reduceEqDiff, Nat.reduceLT, Nat.reduceAdd, Nat.reduceMod, Nat.reduceBEq, sid_mod, sid_ne1, sid_ne2, sid_inj, h1b, h5b, r13b, h6b, r14b, h7b, h8b, h9b, wrap_nat h2 (by omega)]; first | done | rfl | (simp; done)) | assumption | rfl)), (by (first | (simp (maxSteps := 5000000) -dsimp only [gr, Nat.reduceEqDiff, Nat.reduceLT, Nat.reduceAdd, Nat.reduceMod, Nat.reduceBEq, sid_mod, sid_ne1, sid_ne2, sid_inj, h1b, h5b, r13b, h6b, r14b, h7b, h8b, h9b, wrap_nat h2 (by omega)]; first | done | rfl | (simp; done)) | assumption | rfl)), (by (first | (simp (maxSteps := 5000000) -dsimp only [gr, Nat.reduceEqDiff, Nat.reduceLT, Nat.reduceAdd, Nat.reduceMod, Nat.reduceBEq, sid_mod, sid_ne1, sid_ne2, sid_inj, h1b, h5b, r13b, h6b, r14b, h7b, h8b, h9b, wrap_nat h2 (by omega)]; first | done | rfl | (simp; done)) | assumption | rfl)), (by (first | (simp (maxSteps := 5000000) -dsimp only [gr, Nat.reduceEqDiff, Nat.reduceLT, Nat.reduceAdd, Nat.reduceMod, Nat.reduceBEq, sid_mod, sid_ne1, sid_ne2, sid_inj, h1b, h5b, r13b, h6b, r14b, h7b, h8b, h9b, wrap_nat h2 (by omega)]; first | done | rfl | (simp; done)) | assumption | rfl)), (by (first | (simp (maxSteps := 5000000) -dsimp only [gr, Nat.reduceEqDiff, Nat.reduceLT, Nat.reduceAdd, Nat.reduceMod, Nat.reduceBEq, sid_mod, sid_ne1, sid_ne2, sid_inj, h1b, h5b, r13b, h6b, r14b, h7b, h8b, h9b, wrap_nat h2 (by omega)]; first | done | rfl | (simp; done)) | assumption | rfl)), (by (first | (simp (maxSteps := 5000000) -dsimp only [gr, Nat.reduceEqDiff, Nat.reduceLT, Nat.reduceAdd, Nat.reduceMod, Nat.reduceBEq, sid_mod, sid_ne1, sid_ne2, sid_inj, h1b, h5b, r13b, h6b, r14b, h7b, h8b, h9b, wrap_nat h2 (by omega)]; first | done | rfl | (simp; done)) | assumption | rfl)), (by (first | (simp (maxSteps := 5000000) -dsimp only [gr, Nat.reduceEqDiff, Nat.reduceLT, Nat.reduceAdd, Nat.reduceMod, Nat.reduceBEq, sid_mod, sid_ne1, sid_ne2, sid_inj, h1b, h5b, r13b, h6b, r14b, h7b, h8b, h9b, wrap_nat h2 (by omega)]; first | done | rfl | (simp; done)) | assumption | rfl)), ⟨by omega, pfF (.inl ?_)⟩⟩ (by first | omega | (simp only; omega) | (dsimp only; omega) | (show _ < _; simp; omega))⟩, fun hne => again_of ((j + 1, fine)) ⟨(by (first | (simp (maxSteps := 5000000) -dsimp only [gr, Nat.reduceEqDiff, Nat.reduceLT, Nat.reduceAdd, Nat.reduceMod, Nat.reduceBEq, sid_mod, sid_ne1, sid_ne2, sid_inj, h1b, h5b, r13b, h6b, r14b, h7b, h8b, h9b, wrap_nat h2 (by omega)]; first | done | rfl | (simp; done)) | assumption | rfl)), (by (first | (simp (maxSteps := 5000000) -dsimp only [gr, Nat.reduceEqDiff, Nat.reduceLT, Nat.reduceAdd, Nat.reduceMod, Nat.reduceBEq, sid_mod, sid_ne1, sid_ne2, sid_inj, h1b, h5b, r13b, h6b, r14b, h7b, h8b, h9b, wrap_nat h2 (by omega)]; first | done | rfl | (simp; done)) | assumption | rfl)), (by (first | (simp (maxSteps := 5000000) -dsimp only [gr, Nat.reduceEqDiff, Nat.reduceLT, Nat.reduceAdd, Nat.reduceMod, Nat.reduceBEq, sid_mod, sid_ne1, sid_ne2, sid_inj, h1b, h5b, r13b, h6b, r14b, h7b, h8b, h9b, wrap_nat h2 (by omega)]; first | done | rfl | (simp; done)) | assumption | rfl)), (by (first | (simp (maxSteps := 5000000) -dsimp only [gr, Nat.reduceEqDiff, Nat.reduceLT, Nat.reduceAdd, Nat.reduceMod, Nat.reduceBEq, sid_mod, sid_ne1, sid_ne2, sid_inj, h1b, h5b, r13b, h6b, r14b, h7b, h8b, h9b, wrap_nat h2 (by omega)]; first | done | rfl | (simp; done)) | assumption | rfl)), (by (first | (simp (maxSteps := 5000000) -dsimp only [gr, Nat.reduceEqDiff, Nat.reduceLT, Nat.reduceAdd, Nat.reduceMod, Nat.reduceBEq, sid_mod, sid_ne1, sid_ne2, sid_inj, h1b, h5b, r13b, h6b, r14b, h7b, h8b, h9b, wrap_nat h2 (by omega)]; first | done | rfl | (simp; done)) | assumption | rfl)), (by (first | (simp (maxSteps := 5000000) -dsimp only [gr, Nat.reduceEqDiff, Nat.reduceLT, Nat.reduceAdd, Nat.reduceMod, Nat.reduceBEq, sid_mod, sid_ne1, sid_ne2, sid_inj, h1b, h5b, r13b, h6b, r14b, h7b, h8b, h9b, wrap_nat h2 (by omega)]; first | done | rfl | (simp; done)) | assumption | rfl)), (by (first | (simp (maxSteps := 5000000) -dsimp only [gr, Nat.reduceEqDiff, Nat.reduceLT, Nat.reduceAdd, Nat.reduceMod, Nat.reduceBEq, sid_mod, sid_ne1, sid_ne2, sid_inj, h1b, h5b, r13b, h6b, r14b, h7b, h8b, h9b, wrap_nat h2 (by omega)]; first | done | rfl | (simp; done)) | assumption | rfl)), (by (first | (simp (maxSteps := 5000000) -dsimp only [gr, Nat.reduceEqDiff, Nat.reduceLT, Nat.reduceAdd, Nat.reduceMod, Nat.reduceBEq, sid_mod, sid_ne1, sid_ne2, sid_inj, h1b, h5b, r13b, h6b, r14b, h7b, h8b, h9b, wrap_nat h2 (by omega)]; first | done | rfl | (simp; done)) | assumption | rfl)), ⟨by omega, pfF (.inr ?_)⟩⟩ (by first | omega | (simp only; omega) | (dsimp only; omega) | (show _ < _; simp; omega))⟩, fun h2 => ?_⟩
      · rw [eand h2, ej h2] at he
        have := beq_iff_eq.1 he
        simp only [Bool.false_eq_true, if_false]; rw [Nat.and_comm]; omega
      · rw [ek, ej h2] at hne
        intro e; rw [e] at hne; simp at hne
      · rw [eand h2, ej h2] at he
        simp only [Bool.false_eq_true, if_false]
        intro e; rw [Nat.and_comm] at e; rw [e] at he; simp at he
      · rw [ek, ej h2] at hne
        have := bne_eq_false_iff_eq.1 hne
        omega
      · refine ⟨fun hf => ⟨hk, hk, by omega, ?_⟩, fun hf => ?_⟩
        · have hx := (hend (by omega)).1 hf
          exact again_of ((k + 1, v + 1, u)) (by refine ⟨?_, ?_, ?_, ?_, ?_, ?_, by omega⟩ <;> (first | (simp (maxSteps := 5000000) -dsimp only [gr, Nat.reduceEqDiff, Nat.reduceLT, Nat.reduceAdd, Nat.reduceMod, Nat.reduceBEq, sid_mod, sid_ne1, sid_ne2, sid_inj, h1a, h5a, r13a, h6a, r14a, h7a, h1b, h5b, r13b, h6b, r14b, h7b, h8b, h9b, wrap_nat hk (by omega), filt_yes hk hx, ofN_append, ofN_one, ek]; first | done | rfl | (simp; done)) | assumption | rfl)) (by first | omega | (simp only; omega) | (dsimp only; omega) | (show _ < _; simp; omega))
        · have hx := hend2 (by omega) hf
          exact again_of ((k + 1, v, u)) (by refine ⟨?_, ?_, ?_, ?_, ?_, ?_, by omega⟩ <;> (first | (simp (maxSteps := 5000000) -dsimp only [gr, Nat.reduceEqDiff, Nat.reduceLT, Nat.reduceAdd, Nat.reduceMod, Nat.reduceBEq, sid_mod, sid_ne1, sid_ne2, sid_inj, h1a, h5a, r13a, h6a, r14a, h7a, h1b, h5b, r13b, h6b, r14b, h7b, h8b, h9b, wrap_nat hk (by omega), filt_no hk hx]; first | done | rfl | (simp; done)) | assumption | rfl)) (by first | omega | (simp only; omega) | (dsimp only; omega) | (show _ < _; simp; omega))
  · have : k = all.length := by omega
    subst this
    rw [List.take_length]
end Go.Proofs.YtmpjajhklilleaaDoor

namespace Go.Proofs.YtmpjajhklilleaaDoor
open Go.Abs
set_option linter.unusedSimpArgs false
set_option linter.unusedVariables false

end Go.Proofs.YtmpjajhklilleaaDoor

namespace Go.Proofs.YtmpjajhklilleaaDoor
open Go.Abs
set_option linter.unusedSimpArgs false
set_option linter.unusedVariables false

def okS (xs : List Int) : Prop := ∀ x ∈ xs, 0 ≤ x ∧ x < 64
theorem okS_at {xs : List Int} (h : okS xs) {k : Nat} (hk : k < xs.length) : 0 ≤ xs.getD k 0 ∧ xs.getD k 0 < 64 := h _ (getD_mem 0 hk)
theorem cx_ok {n : Int} {xs : List Int} (h : isCx n xs = true) : okS xs := fun x hx => by
  obtain ⟨i, hi, rfl⟩ := mem_getD 0 hx
  exact inSet_lt ((isCx_iff.1 h).2.2 i hi).1
theorem face_test {x : Int} (hx : 0 ≤ x ∧ x < 64) {s : Nat} (hs : s < 64) : (iand .i64 x (s : Int) == (s : Int)) = (x.toNat &&& s == s) := by
  have e : x = ((x.toNat : Nat) : Int) := by omega
  rw [e, iand_nat (by omega) (by omega)]
  have : ((x.toNat : Nat) : Int).toNat = x.toNat := by omega
  rw [this]
  cases h : (x.toNat &&& s == s) with
  | true => rw [beq_iff_eq] at h; rw [h]; simp
  | false =>
    have h := beq_eq_false_iff_ne.1 h
    rw [beq_eq_false_iff_ne]
    exact fun e => h (by omega)
theorem c_spec_l3Has (n : Int) (xs : List Int) (u : Nat) (hx : okS xs) (hs : u < 64) : AC Tryd.prog 81 [.ag [int n, ints xs], int u] (.im (bool (faceB xs u))) := by
  refine AC.go (rs := [.tmp 4]) T_ok mixed Tryd.func81 rfl rfl rfl (by kernel_rfl) fun hl => ?_
  simp only [lens_cons, lens_nil, and_true, lens2_ag2, lens1_v, lens1_iL, lens2_v, true_and] at hl
  simp (maxSteps := 5000000) -dsimp only [↓gp, gq, reduceCtorEq, Nat.reduceEqDiff, Nat.reduceLT, Nat.reduceLeDiff, Nat.reduceAdd, Nat.reduceMul, Nat.reduceSub, Nat.reduceBEq, Int.reduceToNat, Int.reduceLE, Int.reduceLT, Int.reduceNeg, Nat.reduceMod, sid_ne1, sid_ne2, sid_inj, sid_mod, gT, TK.isInt, TK.agg, Array.toList]
  refine loop_of (fun (k : Nat) s => s.sl 1 = int u ∧ s.sl 2 = .ref 2 1 0 ∧ s.rw 2 = ⟨1, .box 31 [int n, ints xs]⟩ ∧ s.sl 5 = int k ∧ (k ≤ xs.length ∧ ∀ i, i < k → ((xs.getD i 0).toNat &&& u == u) = false)) (fun k => xs.length - k) (0) (by refine ⟨?_, ?_, ?_, ?_, by simp⟩ <;> (first | (simp (maxSteps := 5000000) -dsimp only [gr, Nat.reduceEqDiff, Nat.reduceLT, Nat.reduceAdd, Nat.reduceMod, Nat.reduceBEq, sid_mod, sid_ne1, sid_ne2, sid_inj]; first | done | rfl | (simp; done)) | assumption | rfl)) ?_
  intro k sa ⟨h1a, h2a, r2a, h5a, hIa⟩
  obtain ⟨hk, hall⟩ := hIa
  simp (maxSteps := 5000000) -dsimp only [↓gp, gq, reduceCtorEq, Nat.reduceEqDiff, Nat.reduceLT, Nat.reduceLeDiff, Nat.reduceAdd, Nat.reduceMul, Nat.reduceSub, Nat.reduceBEq, Int.reduceToNat, Int.reduceLE, Int.reduceLT, Int.reduceNeg, Nat.reduceMod, sid_ne1, sid_ne2, sid_inj, sid_mod, gT, TK.isInt, TK.agg, Array.toList, h1a, h2a, r2a, h5a]
  refine ⟨fun h => ⟨h, h, fun he => ?_, fun he => again_of (k + 1) ⟨(by (first | (simp (maxSteps := 5000000) -dsimp only [gr, Nat.reduceEqDiff, Nat.reduceLT, Nat.reduceAdd, Nat.reduceMod, Nat.reduceBEq, sid_mod, sid_ne1, sid_ne2, sid_inj, h1a, h2a, r2a, h5a, wrap_nat h hl]; first | done | rfl | (simp; done)) | assumption | rfl)), (by (first | (simp (maxSteps := 5000000) -dsimp only [gr, Nat.reduceEqDiff, Nat.reduceLT, Nat.reduceAdd, Nat.reduceMod, Nat.reduceBEq, sid_mod, sid_ne1, sid_ne2, sid_inj, h1a, h2a, r2a, h5a, wrap_nat h hl]; first | done | rfl | (simp; done)) | assumption | rfl)), (by (first | (simp (maxSteps := 5000000) -dsimp only [gr, Nat.reduceEqDiff, Nat.reduceLT, Nat.reduceAdd, Nat.reduceMod, Nat.reduceBEq, sid_mod, sid_ne1, sid_ne2, sid_inj, h1a, h2a, r2a, h5a, wrap_nat h hl]; first | done | rfl | (simp; done)) | assumption | rfl)), (by (first | (simp (maxSteps := 5000000) -dsimp only [gr, Nat.reduceEqDiff, Nat.reduceLT, Nat.reduceAdd, Nat.reduceMod, Nat.reduceBEq, sid_mod, sid_ne1, sid_ne2, sid_inj, h1a, h2a, r2a, h5a, wrap_nat h hl]; first | done | rfl | (simp; done)) | assumption | rfl)), ⟨by omega, fun i hi => ?_⟩⟩ (by first | omega | (simp only; omega) | (dsimp only; omega) | (show _ < _; simp; omega))⟩, fun h => ?_⟩
  · rw [face_test (okS_at hx h) hs] at he
    exact faceB_iff.2 ⟨_, getD_mem 0 h, by simpa using he⟩
  · rw [face_test (okS_at hx h) hs] at he
    rcases Nat.lt_succ_iff_lt_or_eq.1 hi with hi | rfl
    · exact hall i hi
    · exact he
  · cases hf : faceB xs u with
    | false => rfl
    | true =>
      obtain ⟨x, hx', hx2⟩ := faceB_iff.1 hf
      obtain ⟨i, hi, rfl⟩ := mem_getD 0 hx'
      have := hall i (by omega)
      rw [hx2] at this
      simp at this
/-- A face of a complex. -/
noncomputable def facF (n : Int) (xs : List Int) (s : Nat) : Bool := isCx n xs && faceB xs s
theorem inF_ofN (l : List Nat) (s : Nat) : inF (ofN l) s = decide (s ∈ l) := by
  unfold inF ofN
  refine decide_eq_decide.2 ?_
  simp only [List.mem_map]
  exact ⟨fun ⟨a, h1, h2⟩ => by have : a = s := by omega
                               exact this ▸ h1, fun h => ⟨s, h, rfl⟩⟩
theorem ofN_ok {l : List Nat} (h : ∀ s ∈ l, s < 64) : ∀ x ∈ ofN l, 0 ≤ x ∧ x < 64 := fun x hx => by
  obtain ⟨s, hs, rfl⟩ := List.mem_map.1 hx
  have := h s hs
  omega
theorem c_spec_FacesOf (n : Int) (xs : List Int) : AC Tryd.prog 61 [.ag [int n, ints xs]] (.fr 3 1 (iL (ofN (ordN (facF n xs))))) := by
  refine AC.go (rs := [.tmp 2]) T_ok mixed Tryd.func61 rfl rfl rfl (by kernel_rfl) fun hl => ?_
  simp (maxSteps := 5000000) -dsimp only [↓gp, gq, reduceCtorEq, Nat.reduceEqDiff, Nat.reduceLT, Nat.reduceLeDiff, Nat.reduceAdd, Nat.reduceMul, Nat.reduceSub, Nat.reduceBEq, Int.reduceToNat, Int.reduceLE, Int.reduceLT, Int.reduceNeg, Nat.reduceMod, sid_ne1, sid_ne2, sid_inj, sid_mod, gT, TK.isInt, TK.agg, Array.toList]
  have fin : ∀ m, m = 64 → ordN (inF (ofN ((List.range m).filter (facF n xs)))) = ordN (facF n xs) := fun m hm => by
    refine ordN_congr fun s hs => ?_
    rw [inF_ofN, hm]
    cases h : facF n xs s <;> simp [h, hs]
  have hmem : ∀ m, m ≤ 64 → ∀ s ∈ (List.range m).filter (facF n xs), s < 64 := fun m hm s hs => by
    have := List.mem_range.1 (List.mem_filter.1 hs).1; omega
  refine loop_of (fun (za : Nat × Nat) s => match za with | (m, v) => s.sl 1 = .ref 1 1 0 ∧ s.rw 1 = ⟨1, .box 31 [int n, ints xs]⟩ ∧ s.sl 3 = .own 5 v ∧ s.rw 5 = ⟨v, .sli 3 1 false (iL (ofN ((List.range m).filter (facF n xs))))⟩ ∧ s.sl 4 = int m ∧ (m ≤ 64)) (fun (m, v) => 64 - m) ((0, 1)) (by refine ⟨?_, ?_, ?_, ?_, ?_, by simp⟩ <;> (first | (simp (maxSteps := 5000000) -dsimp only [gr, Nat.reduceEqDiff, Nat.reduceLT, Nat.reduceAdd, Nat.reduceMod, Nat.reduceBEq, sid_mod, sid_ne1, sid_ne2, sid_inj]; first | done | rfl | (simp; done)) | assumption | rfl)) ?_
  intro (m, v) sa ⟨h1a, r1a, h3a, r5a, h4a, hIa⟩
  have hflen : ((List.range m).filter (facF n xs)).length ≤ 64 := by
    have := List.length_filter_le (facF n xs) (List.range m); rw [List.length_range] at this; omega
  simp (maxSteps := 5000000) -dsimp only [↓gp, gq, reduceCtorEq, Nat.reduceEqDiff, Nat.reduceLT, Nat.reduceLeDiff, Nat.reduceAdd, Nat.reduceMul, Nat.reduceSub, Nat.reduceBEq, Int.reduceToNat, Int.reduceLE, Int.reduceLT, Int.reduceNeg, Nat.reduceMod, sid_ne1, sid_ne2, sid_inj, sid_mod, gT, TK.isInt, TK.agg, Array.toList, h1a, r1a, h3a, r5a, h4a]
  refine ⟨fun h => askK_of (c_spec_IsComplex n xs) ?_, fun h => ?_⟩
  · simp (maxSteps := 5000000) -dsimp only [↓gp, gq, reduceCtorEq, Nat.reduceEqDiff, Nat.reduceLT, Nat.reduceLeDiff, Nat.reduceAdd, Nat.reduceMul, Nat.reduceSub, Nat.reduceBEq, Int.reduceToNat, Int.reduceLE, Int.reduceLT, Int.reduceNeg, Nat.reduceMod, sid_ne1, sid_ne2, sid_inj, sid_mod, gT, TK.isInt, TK.agg, Array.toList, h1a, r1a, h3a, r5a, h4a]
    have hm : m < 64 := by omega
    refine ⟨fun hc => askK_of (c_spec_l3Has n xs m (cx_ok hc) hm) ?_, fun hc => askK_of (c_spec_l2Order _ (ofN_ok (hmem m hIa))) ?_⟩
    · simp (maxSteps := 5000000) -dsimp only [↓gp, gq, reduceCtorEq, Nat.reduceEqDiff, Nat.reduceLT, Nat.reduceLeDiff, Nat.reduceAdd, Nat.reduceMul, Nat.reduceSub, Nat.reduceBEq, Int.reduceToNat, Int.reduceLE, Int.reduceLT, Int.reduceNeg, Nat.reduceMod, sid_ne1, sid_ne2, sid_inj, sid_mod, gT, TK.isInt, TK.agg, Array.toList, h1a, r1a, h3a, r5a, h4a, ofN_length]
      refine ⟨fun hf => ?_, fun hf => ?_⟩
      · have e : (List.range (m + 1)).filter (facF n xs) = (List.range m).filter (facF n xs) ++ [m] := by
          rw [List.range_succ, List.filter_append]
          simp [facF, hc, hf]
        refine ⟨by omega, ?_⟩
        exact again_of ((m + 1, v + 1)) (by refine ⟨?_, ?_, ?_, ?_, ?_, by dsimp only; omega⟩ <;> (first | (simp (maxSteps := 5000000) -dsimp only [gr, Nat.reduceEqDiff, Nat.reduceLT, Nat.reduceAdd, Nat.reduceMod, Nat.reduceBEq, sid_mod, sid_ne1, sid_ne2, sid_inj, h1a, r1a, h3a, r5a, h4a, wrap_nat hm (by omega), e, ofN_append, ofN_one]; first | done | rfl | (simp; done)) | assumption | rfl)) (by first | omega | (simp only; omega) | (dsimp only; omega) | (show _ < _; simp; omega))
      · have e : (List.range (m + 1)).filter (facF n xs) = (List.range m).filter (facF n xs) := by
          rw [List.range_succ, List.filter_append]
          simp [facF, hc, hf]
        exact again_of ((m + 1, v)) (by refine ⟨?_, ?_, ?_, ?_, ?_, by dsimp only; omega⟩ <;> (first | (simp (maxSteps := 5000000) -dsimp only [gr, Nat.reduceEqDiff, Nat.reduceLT, Nat.reduceAdd, Nat.reduceMod, Nat.reduceBEq, sid_mod, sid_ne1, sid_ne2, sid_inj, h1a, r1a, h3a, r5a, h4a, wrap_nat hm (by omega), e]; first | done | rfl | (simp; done)) | assumption | rfl)) (by first | omega | (simp only; omega) | (dsimp only; omega) | (show _ < _; simp; omega))
    · simp (maxSteps := 5000000) -dsimp only [↓gp, gq, reduceCtorEq, Nat.reduceEqDiff, Nat.reduceLT, Nat.reduceLeDiff, Nat.reduceAdd, Nat.reduceMul, Nat.reduceSub, Nat.reduceBEq, Int.reduceToNat, Int.reduceLE, Int.reduceLT, Int.reduceNeg, Nat.reduceMod, sid_ne1, sid_ne2, sid_inj, sid_mod, gT, TK.isInt, TK.agg, Array.toList, h1a, r1a, h3a, r5a, h4a]
      have e1 : (List.range m).filter (facF n xs) = [] := by
        rw [List.filter_eq_nil_iff]; intro s _; simp [facF, hc]
      have e2 : ordN (facF n xs) = ordN (inF (ofN [])) := ordN_congr fun s _ => by rw [inF_ofN]; simp [facF, hc]
      rw [e1, e2]
  · have : m = 64 := by omega
    refine askK_of (c_spec_l2Order _ (ofN_ok (hmem m hIa))) ?_
    simp (maxSteps := 5000000) -dsimp only [↓gp, gq, reduceCtorEq, Nat.reduceEqDiff, Nat.reduceLT, Nat.reduceLeDiff, Nat.reduceAdd, Nat.reduceMul, Nat.reduceSub, Nat.reduceBEq, Int.reduceToNat, Int.reduceLE, Int.reduceLT, Int.reduceNeg, Nat.reduceMod, sid_ne1, sid_ne2, sid_inj, sid_mod, gT, TK.isInt, TK.agg, Array.toList, h1a, r1a, h3a, r5a, h4a]
    rw [fin m this]
end Go.Proofs.YtmpjajhklilleaaDoor

namespace Go.Proofs.YtmpjajhklilleaaDoor
open Go.Abs
set_option linter.unusedSimpArgs false
set_option linter.unusedVariables false

theorem maskF_full (w : Nat → Bool) {G : Nat} (hF : G < 2 ^ 64) (h : ∀ s, s < 64 → G.testBit s = w s) : G = maskF w 64 := by
  refine Nat.eq_of_testBit_eq fun s => ?_
  rw [maskF_bit]
  by_cases hs : s < 64
  · rw [h s hs]; simp [hs]
  · have : G.testBit s = false := Nat.testBit_lt_two_pow (Nat.lt_of_lt_of_le hF (Nat.pow_le_pow_right (by omega) (by omega)))
    simp [this, hs]
theorem mask_bit64 (w : Nat → Bool) {s : Nat} (h : s < 64) : (maskF w 64).testBit s = w s := by rw [maskF_bit]; simp [h]
theorem mask_congr {w w' : Nat → Bool} (h : ∀ s, s < 64 → w s = w' s) : maskF w 64 = maskF w' 64 :=
  maskF_full w' (maskF_lt w 64) fun s hs => by rw [mask_bit64 w hs, h s hs]
theorem mask_or (w w' : Nat → Bool) : maskF w 64 ||| maskF w' 64 = maskF (fun s => w s || w' s) 64 :=
  maskF_full _ (Nat.or_lt_two_pow (maskF_lt w 64) (maskF_lt w' 64)) fun s hs => by rw [Nat.testBit_or, mask_bit64 w hs, mask_bit64 w' hs]
theorem mask_bitor (w : Nat → Bool) {t : Nat} (ht : t < 64) : maskF w 64 ||| 2 ^ t = maskF (fun s => w s || s == t) 64 :=
  maskF_full _ (Nat.or_lt_two_pow (maskF_lt w 64) (Nat.pow_lt_pow_right (by omega) ht)) fun s hs => by
    rw [Nat.testBit_or, mask_bit64 w hs, Nat.testBit_two_pow]
    congr 1
    by_cases e : t = s
    · simp [e]
    · simp [e]; exact fun h => e h.symm
theorem mask_none : maskF (fun _ => false) 64 = 0 := (maskF_full (G := 0) (fun _ => false) (by omega) (fun s _ => by simp)).symm
/-- The subsets of a set. -/
def subB (u : Nat) (t : Nat) : Bool := u &&& t == t
theorem c_impl_subsetFamily (u : Nat) (hu : u < 64) : AC Tryd.prog 65 [int u] (.im (u64 (maskF (subB u) 64 : Nat))) := by
  refine AC.go (rs := [.tmp 2]) T_ok mixed Tryd.func65 rfl rfl rfl (by kernel_rfl) fun hl => ?_
  simp (maxSteps := 5000000) -dsimp only [↓gp, gq, reduceCtorEq, Nat.reduceEqDiff, Nat.reduceLT, Nat.reduceLeDiff, Nat.reduceAdd, Nat.reduceMul, Nat.reduceSub, Nat.reduceBEq, Int.reduceToNat, Int.reduceLE, Int.reduceLT, Int.reduceNeg, Nat.reduceMod, sid_ne1, sid_ne2, sid_inj, sid_mod, gT, TK.isInt, TK.agg, Array.toList]
  have hinit : maskF (fun v => subB u v && decide (u < v)) 64 = 0 := by
    rw [← mask_none]
    refine mask_congr fun v hv => ?_
    cases h : (subB u v && decide (u < v)) with
    | false => rfl
    | true =>
      simp [subB] at h
      have : u &&& v ≤ u := Nat.and_le_left
      omega
  refine loop_of (fun (t : Nat) s => s.sl 0 = int u ∧ s.sl 3 = u64 (maskF (fun v => subB u v && decide (t < v)) 64 : Nat) ∧ s.sl 4 = int t ∧ (t ≤ u ∧ u &&& t = t)) (fun t => t) (u) (by refine ⟨?_, ?_, ?_, ⟨Nat.le_refl _, Nat.and_self u⟩⟩ <;> (first | (simp (maxSteps := 5000000) -dsimp only [gr, Nat.reduceEqDiff, Nat.reduceLT, Nat.reduceAdd, Nat.reduceMod, Nat.reduceBEq, sid_mod, sid_ne1, sid_ne2, sid_inj, hinit]; first | done | rfl | (simp; done)) | assumption | rfl)) ?_
  intro t sa ⟨h0a, h3a, h4a, hIa⟩
  obtain ⟨htu, hts⟩ := hIa
  have hlt := maskF_lt (fun v => subB u v && decide (t < v)) 64
  have hcv : IntKind.u64.wrap (t : Int) = (t : Int) := uwrap_id (by omega)
  have h2t : (2 : Nat) ^ t < 18446744073709551616 := by
    have : (2 : Nat) ^ t < 2 ^ 64 := Nat.pow_lt_pow_right (by omega) (by omega)
    omega
  have hor : ior .u64 (maskF (fun v => subB u v && decide (t < v)) 64 : Nat) (ishl .u64 1 (t : Int)) = ((maskF (fun v => subB u v && decide (t ≤ v)) 64 : Nat) : Int) := by
    rw [ishl_u (by omega), ior_u (by omega) h2t, mask_bitor _ (by omega)]
    congr 1
    refine mask_congr fun v hv => ?_
    by_cases e : v = t
    · subst e; simp [subB, hts]
    · have e1 : decide (t < v) = decide (t ≤ v) := decide_eq_decide.2 (by omega)
      simp [e, e1]
  simp (maxSteps := 5000000) -dsimp only [↓gp, gq, reduceCtorEq, Nat.reduceEqDiff, Nat.reduceLT, Nat.reduceLeDiff, Nat.reduceAdd, Nat.reduceMul, Nat.reduceSub, Nat.reduceBEq, Int.reduceToNat, Int.reduceLE, Int.reduceLT, Int.reduceNeg, Nat.reduceMod, sid_ne1, sid_ne2, sid_inj, sid_mod, gT, TK.isInt, TK.agg, Array.toList, h0a, h3a, h4a, hcv, hor]
  refine ⟨fun h0 => ?_, fun h0 => ?_⟩
  · have : t = 0 := by simp at h0; omega
    subst this
    simp
  · have h0 : ¬ t = 0 := by
      intro e; subst e; simp at h0
    have hw : IntKind.i64.wrap ((t : Int) - 1) = ((t - 1 : Nat) : Int) := by rw [wrap_id (by omega) (by omega)]; omega
    have hand := iand_nat (a := t - 1) (b := u) (by omega) (by omega)
    have hle : (t - 1) &&& u ≤ t - 1 := Nat.and_le_left
    have hnext : maskF (fun v => subB u v && decide ((t - 1) &&& u < v)) 64 = maskF (fun v => subB u v && decide (t ≤ v)) 64 := by
      refine mask_congr fun v hv => ?_
      cases hs : subB u v with
      | false => rfl
      | true =>
        simp only [Bool.true_and]
        refine decide_eq_decide.2 ⟨fun h => ?_, fun h => by omega⟩
        rcases Nat.lt_or_ge v t with h2 | h2
        · have := sub_next u hu t (by omega) (by rw [Nat.and_comm]; exact hts) h0 v h2 (by rw [Nat.and_comm]; simpa [subB] using hs)
          omega
        · exact h2
    simp (maxSteps := 5000000) -dsimp only [↓gp, gq, reduceCtorEq, Nat.reduceEqDiff, Nat.reduceLT, Nat.reduceLeDiff, Nat.reduceAdd, Nat.reduceMul, Nat.reduceSub, Nat.reduceBEq, Int.reduceToNat, Int.reduceLE, Int.reduceLT, Int.reduceNeg, Nat.reduceMod, sid_ne1, sid_ne2, sid_inj, sid_mod, gT, TK.isInt, TK.agg, Array.toList, h0a, h3a, h4a, hcv, hor, hw, hand]
    exact again_of ((t - 1) &&& u) (by refine ⟨?_, ?_, ?_, ⟨by omega, by rw [Nat.and_comm, Nat.and_assoc, Nat.and_self]⟩⟩ <;> (first | (simp (maxSteps := 5000000) -dsimp only [gr, Nat.reduceEqDiff, Nat.reduceLT, Nat.reduceAdd, Nat.reduceMod, Nat.reduceBEq, sid_mod, sid_ne1, sid_ne2, sid_inj, h0a, h3a, h4a, hcv, hor, hw, hand, hnext]; first | done | rfl | (simp; done)) | assumption | rfl)) (by first | omega | (simp only; omega) | (dsimp only; omega) | (show _ < _; simp; omega))
theorem faceB_snoc {xs : List Int} {k t : Nat} (h : k < xs.length) : faceB (xs.take (k + 1)) t = (faceB (xs.take k) t || subB (xs.getD k 0).toNat t) := by
  rw [take_snoc 0 h]
  unfold faceB subB
  rw [List.any_append]
  simp
theorem c_impl_facesIn (n : Int) (xs : List Int) (hx : okS xs) : AC Tryd.prog 40 [.ag [int n, ints xs]] (.im (u64 (maskF (faceB xs) 64 : Nat))) := by
  refine AC.go (rs := [.tmp 2]) T_ok mixed Tryd.func40 rfl rfl rfl (by kernel_rfl) fun hl => ?_
  simp only [lens_cons, lens_nil, and_true, lens2_ag2, lens1_v, lens1_iL, lens2_v, true_and] at hl
  simp (maxSteps := 5000000) -dsimp only [↓gp, gq, reduceCtorEq, Nat.reduceEqDiff, Nat.reduceLT, Nat.reduceLeDiff, Nat.reduceAdd, Nat.reduceMul, Nat.reduceSub, Nat.reduceBEq, Int.reduceToNat, Int.reduceLE, Int.reduceLT, Int.reduceNeg, Nat.reduceMod, sid_ne1, sid_ne2, sid_inj, sid_mod, gT, TK.isInt, TK.agg, Array.toList]
  have hinit : maskF (faceB (xs.take 0)) 64 = 0 := mask_none
  refine loop_of (fun (k : Nat) s => s.sl 3 = u64 (maskF (faceB (xs.take k)) 64 : Nat) ∧ s.sl 7 = ints xs ∧ s.sl 8 = int xs.length ∧ s.sl 9 = int k ∧ (k ≤ xs.length)) (fun k => xs.length - k) (0) (by refine ⟨?_, ?_, ?_, ?_, by omega⟩ <;> (first | (simp (maxSteps := 5000000) -dsimp only [gr, Nat.reduceEqDiff, Nat.reduceLT, Nat.reduceAdd, Nat.reduceMod, Nat.reduceBEq, sid_mod, sid_ne1, sid_ne2, sid_inj, hinit]; first | done | rfl | (simp; done)) | assumption | rfl)) ?_
  intro k sa ⟨h3a, h7a, h8a, h9a, hIa⟩
  simp (maxSteps := 5000000) -dsimp only [↓gp, gq, reduceCtorEq, Nat.reduceEqDiff, Nat.reduceLT, Nat.reduceLeDiff, Nat.reduceAdd, Nat.reduceMul, Nat.reduceSub, Nat.reduceBEq, Int.reduceToNat, Int.reduceLE, Int.reduceLT, Int.reduceNeg, Nat.reduceMod, sid_ne1, sid_ne2, sid_inj, sid_mod, gT, TK.isInt, TK.agg, Array.toList, h3a, h7a, h8a, h9a]
  refine ⟨fun h => ⟨h, h, ?_⟩, fun h => ?_⟩
  · have h6 := okS_at hx h
    have hn : xs.getD k 0 = ((xs.getD k 0).toNat : Int) := by omega
    have hc := c_impl_subsetFamily (xs.getD k 0).toNat (by omega)
    rw [← hn] at hc
    refine askK_of hc ?_
    have hm1 := maskF_lt (faceB (xs.take k)) 64
    have hm2 := maskF_lt (subB (xs.getD k 0).toNat) 64
    have hor : ior .u64 (maskF (faceB (xs.take k)) 64 : Nat) (maskF (subB (xs.getD k 0).toNat) 64 : Nat) = ((maskF (faceB (xs.take (k + 1))) 64 : Nat) : Int) := by
      rw [ior_u (by omega) (by omega), mask_or]
      congr 1
      exact mask_congr fun t _ => (faceB_snoc h).symm
    simp (maxSteps := 5000000) -dsimp only [↓gp, gq, reduceCtorEq, Nat.reduceEqDiff, Nat.reduceLT, Nat.reduceLeDiff, Nat.reduceAdd, Nat.reduceMul, Nat.reduceSub, Nat.reduceBEq, Int.reduceToNat, Int.reduceLE, Int.reduceLT, Int.reduceNeg, Nat.reduceMod, sid_ne1, sid_ne2, sid_inj, sid_mod, gT, TK.isInt, TK.agg, Array.toList, h3a, h7a, h8a, h9a, hor]
    exact again_of (k + 1) (by refine ⟨?_, ?_, ?_, ?_, by omega⟩ <;> (first | (simp (maxSteps := 5000000) -dsimp only [gr, Nat.reduceEqDiff, Nat.reduceLT, Nat.reduceAdd, Nat.reduceMod, Nat.reduceBEq, sid_mod, sid_ne1, sid_ne2, sid_inj, h3a, h7a, h8a, h9a, wrap_nat h hl, hor]; first | done | rfl | (simp; done)) | assumption | rfl)) (by first | omega | (simp only; omega) | (dsimp only; omega) | (show _ < _; simp; omega))
  · have : k = xs.length := by omega
    rw [this, List.take_length]
end Go.Proofs.YtmpjajhklilleaaDoor

namespace Go.Proofs.YtmpjajhklilleaaDoor
open Go.Abs
set_option linter.unusedSimpArgs false
set_option linter.unusedVariables false

end Go.Proofs.YtmpjajhklilleaaDoor

namespace Go.Proofs.YtmpjajhklilleaaDoor
open Go.Abs
set_option linter.unusedSimpArgs false
set_option linter.unusedVariables false

end Go.Proofs.YtmpjajhklilleaaDoor

namespace Go.Proofs.YtmpjajhklilleaaDoor
open Go.Abs
set_option linter.unusedSimpArgs false
set_option linter.unusedVariables false

end Go.Proofs.YtmpjajhklilleaaDoor

namespace Go.Proofs.YtmpjajhklilleaaDoor
open Go.Abs
set_option linter.unusedSimpArgs false
set_option linter.unusedVariables false

end Go.Proofs.YtmpjajhklilleaaDoor

namespace Go.Proofs.YtmpjajhklilleaaDoor
open Go.Abs
set_option linter.unusedSimpArgs false
set_option linter.unusedVariables false

end Go.Proofs.YtmpjajhklilleaaDoor

namespace Go.Proofs.YtmpjajhklilleaaDoor
open Go.Abs
set_option linter.unusedSimpArgs false
set_option linter.unusedVariables false

end Go.Proofs.YtmpjajhklilleaaDoor

namespace Go.Proofs.YtmpjajhklilleaaDoor
open Go.Abs
set_option linter.unusedSimpArgs false
set_option linter.unusedVariables false

end Go.Proofs.YtmpjajhklilleaaDoor

namespace Go.Proofs.YtmpjajhklilleaaDoor
open Go.Abs
set_option linter.unusedSimpArgs false
set_option linter.unusedVariables false

theorem szOf_nat {t : Nat} (h : t < 64) : szOf (t : Int) = (popN t : Nat) := by rw [szOf, if_pos (by omega)]; simp
end Go.Proofs.YtmpjajhklilleaaDoor

namespace Go.Proofs.YtmpjajhklilleaaDoor
open Go.Abs
set_option linter.unusedSimpArgs false
set_option linter.unusedVariables false

end Go.Proofs.YtmpjajhklilleaaDoor

namespace Go.Proofs.YtmpjajhklilleaaDoor
open Go.Abs
set_option linter.unusedSimpArgs false
set_option linter.unusedVariables false

theorem c_spec_l3Make (n : Int) (xs : List Int) (hx : okS xs) : AC Tryd.prog 63 [int n, ints xs] (.ag [.im (int n), .fr 3 1 (iL (ofN (extN (inF xs) true)))]) := by
  refine AC.go (rs := [.cell 4 31]) T_ok mixed Tryd.func63 rfl rfl rfl (by kernel_rfl) fun hl => ?_
  simp (maxSteps := 5000000) -dsimp only [↓gp, gq, reduceCtorEq, Nat.reduceEqDiff, Nat.reduceLT, Nat.reduceLeDiff, Nat.reduceAdd, Nat.reduceMul, Nat.reduceSub, Nat.reduceBEq, Int.reduceToNat, Int.reduceLE, Int.reduceLT, Int.reduceNeg, Nat.reduceMod, sid_ne1, sid_ne2, sid_inj, sid_mod, gT, TK.isInt, TK.agg, Array.toList]
  refine askK_of (c_spec_l2Extreme true xs hx) ?_
  simp (maxSteps := 5000000) -dsimp only [↓gp, gq, reduceCtorEq, Nat.reduceEqDiff, Nat.reduceLT, Nat.reduceLeDiff, Nat.reduceAdd, Nat.reduceMul, Nat.reduceSub, Nat.reduceBEq, Int.reduceToNat, Int.reduceLE, Int.reduceLT, Int.reduceNeg, Nat.reduceMod, sid_ne1, sid_ne2, sid_inj, sid_mod, gT, TK.isInt, TK.agg, Array.toList]
end Go.Proofs.YtmpjajhklilleaaDoor

namespace Go.Proofs.YtmpjajhklilleaaDoor
open Go.Abs
set_option linter.unusedSimpArgs false
set_option linter.unusedVariables false

end Go.Proofs.YtmpjajhklilleaaDoor

namespace Go.Proofs.YtmpjajhklilleaaDoor
open Go.Abs
set_option linter.unusedSimpArgs false
set_option linter.unusedVariables false

end Go.Proofs.YtmpjajhklilleaaDoor

namespace Go.Proofs.YtmpjajhklilleaaDoor
open Go.Abs
set_option linter.unusedSimpArgs false
set_option linter.unusedVariables false

end Go.Proofs.YtmpjajhklilleaaDoor

namespace Go.Proofs.YtmpjajhklilleaaDoor
open Go.Abs
set_option linter.unusedSimpArgs false
set_option linter.unusedVariables false

end Go.Proofs.YtmpjajhklilleaaDoor

namespace Go.Proofs.YtmpjajhklilleaaDoor
open Go.Abs
set_option linter.unusedSimpArgs false
set_option linter.unusedVariables false

end Go.Proofs.YtmpjajhklilleaaDoor

namespace Go.Proofs.YtmpjajhklilleaaDoor
open Go.Abs
set_option linter.unusedSimpArgs false
set_option linter.unusedVariables false

end Go.Proofs.YtmpjajhklilleaaDoor

namespace Go.Proofs.YtmpjajhklilleaaDoor
open Go.Abs
set_option linter.unusedSimpArgs false
set_option linter.unusedVariables false

end Go.Proofs.YtmpjajhklilleaaDoor

namespace Go.Proofs.YtmpjajhklilleaaDoor
open Go.Abs
set_option linter.unusedSimpArgs false
set_option linter.unusedVariables false

end Go.Proofs.YtmpjajhklilleaaDoor

namespace Go.Proofs.YtmpjajhklilleaaDoor
open Go.Abs
set_option linter.unusedSimpArgs false
set_option linter.unusedVariables false

end Go.Proofs.YtmpjajhklilleaaDoor

namespace Go.Proofs.YtmpjajhklilleaaDoor
open Go.Abs
set_option linter.unusedSimpArgs false
set_option linter.unusedVariables false

end Go.Proofs.YtmpjajhklilleaaDoor

namespace Go.Proofs.YtmpjajhklilleaaDoor
open Go.Abs
set_option linter.unusedSimpArgs false
set_option linter.unusedVariables false

end Go.Proofs.YtmpjajhklilleaaDoor

namespace Go.Proofs.YtmpjajhklilleaaDoor
open Go.Abs
set_option linter.unusedSimpArgs false
set_option linter.unusedVariables false

theorem max_after {f : Nat → Bool} {l1 l2 : List Nat} {s : Nat} (h : ordN f = l1 ++ s :: l2) : (∃ t, t ∈ l2 ∧ s &&& t = s) ↔ extB f true s = false := by
  have hpw := ordN_pw f
  rw [h, List.pairwise_append] at hpw
  have hp2 := List.pairwise_cons.1 hpw.2.1
  have hs : s < 64 ∧ f s = true := mem_ordN.1 (by rw [h]; simp)
  constructor
  · rintro ⟨t, ht, hst⟩
    have hm : t < 64 ∧ f t = true := mem_ordN.1 (by rw [h]; simp [ht])
    cases hx : extB f true s with
    | false => rfl
    | true =>
      have := extB_iff'.1 hx t hm.1 hm.2 hst
      subst this
      exact absurd (hp2.1 t ht) befN_irrefl
  · intro hx
    have : ¬ ∀ t, t < 64 → f t = true → s &&& t = s → t = s := fun h => by rw [extB_iff'.2 h] at hx; cases hx
    obtain ⟨t, ht⟩ := Classical.not_forall.1 this
    have h1 : t < 64 := Classical.byContradiction fun h => ht fun h2 => absurd h2 h
    have h2 : f t = true := Classical.byContradiction fun h => ht fun _ h2 => absurd h2 h
    have h3 : s &&& t = s := Classical.byContradiction fun h => ht fun _ _ h2 => absurd h2 h
    have h4 : t ≠ s := fun e => ht fun _ _ _ => e
    have hlt := pop_sub h1 hs.1 h3 (Ne.symm h4)
    have hm : t ∈ l1 ++ s :: l2 := h ▸ mem_ordN.2 ⟨h1, h2⟩
    rcases List.mem_append.1 hm with hm | hm
    · have := hpw.2.2 t hm s (by simp)
      unfold befN at this
      omega
    · rcases List.mem_cons.1 hm with hm | hm
      · exact absurd hm h4
      · exact ⟨t, hm, h3⟩
theorem c_impl_maximalIn (G : Nat) (hG : G < 18446744073709551616) : AC Tryd.prog 67 [u64 G] (.fr 3 1 (iL (ofN (extN G.testBit true)))) := by
  refine AC.go (rs := [.tmp 2]) T_ok mixed Tryd.func67 rfl rfl rfl (by kernel_rfl) fun hl => ?_
  simp (maxSteps := 5000000) -dsimp only [↓gp, gq, reduceCtorEq, Nat.reduceEqDiff, Nat.reduceLT, Nat.reduceLeDiff, Nat.reduceAdd, Nat.reduceMul, Nat.reduceSub, Nat.reduceBEq, Int.reduceToNat, Int.reduceLE, Int.reduceLT, Int.reduceNeg, Nat.reduceMod, sid_ne1, sid_ne2, sid_inj, sid_mod, gT, TK.isInt, TK.agg, Array.toList]
  refine askK_of (c_impl_setsIn G hG) ?_
  simp (maxSteps := 5000000) -dsimp only [↓gp, gq, reduceCtorEq, Nat.reduceEqDiff, Nat.reduceLT, Nat.reduceLeDiff, Nat.reduceAdd, Nat.reduceMul, Nat.reduceSub, Nat.reduceBEq, Int.reduceToNat, Int.reduceLE, Int.reduceLT, Int.reduceNeg, Nat.reduceMod, sid_ne1, sid_ne2, sid_inj, sid_mod, gT, TK.isInt, TK.agg, Array.toList, ofN_length]
  have hfull := ordN_len G.testBit
  have hmem : ∀ k, k < (ordN G.testBit).length → (ordN G.testBit).getD k 0 < 64 := fun k hk => (mem_ordN.1 (getD_mem 0 hk)).1
  have hmax : ∀ k, k < (ordN G.testBit).length → ((∃ t, t ∈ (ordN G.testBit).drop (k + 1) ∧ (ordN G.testBit).getD k 0 &&& t = (ordN G.testBit).getD k 0) ↔ extB G.testBit true ((ordN G.testBit).getD k 0) = false) := fun k hk => max_after (split_at hk)
  unfold extN
  generalize ordN G.testBit = all at *
  refine loop_of (fun (za : Nat × Nat × Bool) s => match za with | (k, v, fz) => s.sl 3 = .own 11 1 ∧ s.rw 11 = ⟨1, .sli 3 1 fz (iL (ofN all))⟩ ∧ s.sl 4 = .own 4 v ∧ s.rw 4 = ⟨v, .sli 3 1 false (iL (ofN ((all.take k).filter (extB G.testBit true))))⟩ ∧ s.sl 12 = .own 11 1 ∧ s.sl 13 = int all.length ∧ s.sl 14 = int k ∧ (k ≤ all.length)) (fun (k, v, fz) => all.length - k) ((0, 1, false)) (by refine ⟨?_, ?_, ?_, ?_, ?_, ?_, ?_, by simp⟩ <;> (first | (simp (maxSteps := 5000000) -dsimp only [gr, Nat.reduceEqDiff, Nat.reduceLT, Nat.reduceAdd, Nat.reduceMod, Nat.reduceBEq, sid_mod, sid_ne1, sid_ne2, sid_inj, ofN_length]; first | done | rfl | (simp; done)) | assumption | rfl)) ?_
  intro (k, v, fz) sa ⟨h3a, r11a, h4a, r4a, h12a, h13a, h14a, hIa⟩
  have hflen : ((all.take k).filter (extB G.testBit true)).length ≤ k := Nat.le_trans filt_len (by simp; omega)
  by_cases hk : k < all.length
  · have hs := hmem k hk
    have hge : (ofN all).getD k 0 = ((all.getD k 0 : Nat) : Int) := ofN_getD hk
    have hwk := wrap_nat hk (by omega)
    have hdrop : ∀ j, j < (all.drop (k + 1)).length → ((all.drop (k + 1)).getD j 0) < 64 ∧ (ofN (all.drop (k + 1))).getD j 0 = (((all.drop (k + 1)).getD j 0 : Nat) : Int) := fun j hj => ⟨by
      have hm := List.mem_of_mem_drop (getD_mem 0 hj)
      obtain ⟨i, hi, e⟩ := mem_getD 0 hm
      rw [← e]; exact hmem i hi, ofN_getD hj⟩
    have hdl : (all.drop (k + 1)).length ≤ 448 := by simp; omega
    have hsub : ∀ j, j < (all.drop (k + 1)).length → (iandnot .i64 (all.getD k 0 : Nat) ((ofN (all.drop (k + 1))).getD j 0) = 0 ↔ all.getD k 0 &&& (all.drop (k + 1)).getD j 0 = all.getD k 0) := fun j hj => by
      have hd := hdrop j hj
      rw [hd.2, iandnot_nat (by omega) (by omega), ← xor_and_zero]
      omega
    have hofd : (ofN all).drop (k + 1) = ofN (all.drop (k + 1)) := by unfold ofN; rw [List.map_drop]
    have hmk := hmax k hk
    have hyes : extB G.testBit true (all.getD k 0) = true → ofN ((all.take (k + 1)).filter (extB G.testBit true)) = ofN ((all.take k).filter (extB G.testBit true)) ++ [((all.getD k 0 : Nat) : Int)] := fun h => by rw [filt_yes hk h, ofN_append, ofN_one]
    have hno : extB G.testBit true (all.getD k 0) = false → ofN ((all.take (k + 1)).filter (extB G.testBit true)) = ofN ((all.take k).filter (extB G.testBit true)) := fun h => by rw [filt_no hk h]
    cases fz with
    | false =>
      simp (maxSteps := 5000000) -dsimp only [↓gp, gq, reduceCtorEq, Nat.reduceEqDiff, Nat.reduceLT, Nat.reduceLeDiff, Nat.reduceAdd, Nat.reduceMul, Nat.reduceSub, Nat.reduceBEq, Int.reduceToNat, Int.reduceLE, Int.reduceLT, Int.reduceNeg, Nat.reduceMod, sid_ne1, sid_ne2, sid_inj, sid_mod, gT, TK.isInt, TK.agg, Array.toList, h3a, r11a, h4a, r4a, h12a, h13a, h14a, ofN_length, hge, hwk, Int.toNat_natCast, hofd]
      refine ⟨fun _ => ⟨hk, hk, by omega, ?_⟩, fun h => absurd hk h⟩
      refine loop_of (fun (j : Nat) s => s.sl 3 = .own 11 1 ∧ s.rw 11 = ⟨1, .sli 3 1 true (iL (ofN all))⟩ ∧ s.sl 4 = .own 4 v ∧ s.rw 4 = ⟨v, .sli 3 1 false (iL (ofN ((all.take k).filter (extB G.testBit true))))⟩ ∧ s.sl 12 = .own 11 1 ∧ s.sl 13 = int all.length ∧ s.sl 14 = int k ∧ s.sl 6 = int (all.getD k 0 : Nat) ∧ s.sl 7 = .v (.bool false) ∧ s.sl 22 = .sl true 1 (iL (ofN (all.drop (k + 1)))) ∧ s.sl 23 = int (all.drop (k + 1)).length ∧ s.sl 24 = int j ∧ (j ≤ (all.drop (k + 1)).length ∧ ∀ i, i < j → all.getD k 0 &&& (all.drop (k + 1)).getD i 0 ≠ all.getD k 0)) (fun j => (all.drop (k + 1)).length - j) (0) (by refine ⟨?_, ?_, ?_, ?_, ?_, ?_, ?_, ?_, ?_, ?_, ?_, ?_, by simp⟩ <;> (first | (simp (maxSteps := 5000000) -dsimp only [gr, Nat.reduceEqDiff, Nat.reduceLT, Nat.reduceAdd, Nat.reduceMod, Nat.reduceBEq, sid_mod, sid_ne1, sid_ne2, sid_inj, h3a, r11a, h4a, r4a, h12a, h13a, h14a, ofN_length, hge, hwk, hofd]; first | done | rfl | (simp; done)) | assumption | rfl)) ?_
      intro j sb ⟨h3b, r11b, h4b, r4b, h12b, h13b, h14b, h6b, h7b, h22b, h23b, h24b, hIb⟩
      obtain ⟨hj, hall⟩ := hIb
      simp (maxSteps := 5000000) -dsimp only [↓gp, gq, reduceCtorEq, Nat.reduceEqDiff, Nat.reduceLT, Nat.reduceLeDiff, Nat.reduceAdd, Nat.reduceMul, Nat.reduceSub, Nat.reduceBEq, Int.reduceToNat, Int.reduceLE, Int.reduceLT, Int.reduceNeg, Nat.reduceMod, sid_ne1, sid_ne2, sid_inj, sid_mod, gT, TK.isInt, TK.agg, Array.toList, h3b, r11b, h4b, r4b, h12b, h13b, h14b, h6b, h7b, h22b, h23b, h24b, ofN_length, hge, hwk]
      refine ⟨fun h2 => ⟨h2, h2, fun he => ?_, fun he => ?_⟩, fun h2 => ?_⟩
      · have hm := (hsub j h2).1 (by simpa using he)
        have hx := hmk.1 ⟨_, getD_mem 0 h2, hm⟩
        have e := hno hx
        exact again_of ((k + 1, v, true)) (by refine ⟨?_, ?_, ?_, ?_, ?_, ?_, ?_, by dsimp only; omega⟩ <;> (first | (simp (maxSteps := 5000000) -dsimp only [gr, Nat.reduceEqDiff, Nat.reduceLT, Nat.reduceAdd, Nat.reduceMod, Nat.reduceBEq, sid_mod, sid_ne1, sid_ne2, sid_inj, h3a, r11a, h4a, r4a, h12a, h13a, h14a, h3b, r11b, h4b, r4b, h12b, h13b, h14b, h6b, h7b, h22b, h23b, h24b, hwk, e]; first | done | rfl | (simp; done)) | assumption | rfl)) (by first | omega | (simp only; omega) | (dsimp only; omega) | (show _ < _; simp; omega))
      · have hm : ¬ all.getD k 0 &&& (all.drop (k + 1)).getD j 0 = all.getD k 0 := fun h => by rw [(hsub j h2).2 h] at he; simp at he
        have hw2 := wrap_nat h2 (by omega)
        have hall2 : ∀ i, i < j + 1 → all.getD k 0 &&& (all.drop (k + 1)).getD i 0 ≠ all.getD k 0 := fun i hi => by
          rcases Nat.lt_succ_iff_lt_or_eq.1 hi with hi | rfl
          · exact hall i hi
          · exact hm
        exact again_of (j + 1) (by refine ⟨?_, ?_, ?_, ?_, ?_, ?_, ?_, ?_, ?_, ?_, ?_, ?_, ⟨by omega, hall2⟩⟩ <;> (first | (simp (maxSteps := 5000000) -dsimp only [gr, Nat.reduceEqDiff, Nat.reduceLT, Nat.reduceAdd, Nat.reduceMod, Nat.reduceBEq, sid_mod, sid_ne1, sid_ne2, sid_inj, h3b, r11b, h4b, r4b, h12b, h13b, h14b, h6b, h7b, h22b, h23b, h24b, hw2]; first | done | rfl | (simp; done)) | assumption | rfl)) (by first | omega | (simp only; omega) | (dsimp only; omega) | (show _ < _; simp; omega))
      · have hx : extB G.testBit true (all.getD k 0) = true := by
          cases hb : extB G.testBit true (all.getD k 0) with
          | true => rfl
          | false =>
            obtain ⟨t, ht, hst⟩ := hmk.2 hb
            obtain ⟨i, hi, rfl⟩ := mem_getD 0 ht
            exact absurd hst (hall i (by omega))
        have e := hyes hx
        exact ⟨by omega, again_of ((k + 1, v + 1, true)) (by refine ⟨?_, ?_, ?_, ?_, ?_, ?_, ?_, by dsimp only; omega⟩ <;> (first | (simp (maxSteps := 5000000) -dsimp only [gr, Nat.reduceEqDiff, Nat.reduceLT, Nat.reduceAdd, Nat.reduceMod, Nat.reduceBEq, sid_mod, sid_ne1, sid_ne2, sid_inj, h3a, r11a, h4a, r4a, h12a, h13a, h14a, h3b, r11b, h4b, r4b, h12b, h13b, h14b, h6b, h7b, h22b, h23b, h24b, hwk, e]; first | done | rfl | (simp; done)) | assumption | rfl)) (by first | omega | (simp only; omega) | (dsimp only; omega) | (show _ < _; simp; omega))⟩
    | true =>
      simp (maxSteps := 5000000) -dsimp only [↓gp, gq, reduceCtorEq, Nat.reduceEqDiff, Nat.reduceLT, Nat.reduceLeDiff, Nat.reduceAdd, Nat.reduceMul, Nat.reduceSub, Nat.reduceBEq, Int.reduceToNat, Int.reduceLE, Int.reduceLT, Int.reduceNeg, Nat.reduceMod, sid_ne1, sid_ne2, sid_inj, sid_mod, gT, TK.isInt, TK.agg, Array.toList, h3a, r11a, h4a, r4a, h12a, h13a, h14a, ofN_length, hge, hwk, Int.toNat_natCast, hofd]
      refine ⟨fun _ => ⟨hk, hk, by omega, ?_⟩, fun h => absurd hk h⟩
      refine loop_of (fun (j : Nat) s => s.sl 3 = .own 11 1 ∧ s.rw 11 = ⟨1, .sli 3 1 true (iL (ofN all))⟩ ∧ s.sl 4 = .own 4 v ∧ s.rw 4 = ⟨v, .sli 3 1 false (iL (ofN ((all.take k).filter (extB G.testBit true))))⟩ ∧ s.sl 12 = .own 11 1 ∧ s.sl 13 = int all.length ∧ s.sl 14 = int k ∧ s.sl 6 = int (all.getD k 0 : Nat) ∧ s.sl 7 = .v (.bool false) ∧ s.sl 22 = .sl true 1 (iL (ofN (all.drop (k + 1)))) ∧ s.sl 23 = int (all.drop (k + 1)).length ∧ s.sl 24 = int j ∧ (j ≤ (all.drop (k + 1)).length ∧ ∀ i, i < j → all.getD k 0 &&& (all.drop (k + 1)).getD i 0 ≠ all.getD k 0)) (fun j => (all.drop (k + 1)).length - j) (0) (by refine ⟨?_, ?_, ?_, ?_, ?_, ?_, ?_, ?_, ?_, ?_, ?_, ?_, by simp⟩ <;> (first | (simp (maxSteps := 5000000) -dsimp only [gr, Nat.reduceEqDiff, Nat.reduceLT, Nat.reduceAdd, Nat.reduceMod, Nat.reduceBEq, sid_mod, sid_ne1, sid_ne2, sid_inj, h3a, r11a, h4a, r4a, h12a, h13a, h14a, ofN_length, hge, hwk, hofd]; first | done | rfl | (simp; done)) | assumption | rfl)) ?_
      intro j sb ⟨h3b, r11b, h4b, r4b, h12b, h13b, h14b, h6b, h7b, h22b, h23b, h24b, hIb⟩
      obtain ⟨hj, hall⟩ := hIb
      simp (maxSteps := 5000000) -dsimp only [↓gp, gq, reduceCtorEq, Nat.reduceEqDiff, Nat.reduceLT, Nat.reduceLeDiff, Nat.reduceAdd, Nat.reduceMul, Nat.reduceSub, Nat.reduceBEq, Int.reduceToNat, Int.reduceLE, Int.reduceLT, Int.reduceNeg, Nat.reduceMod, sid_ne1, sid_ne2, sid_inj, sid_mod, gT, TK.isInt, TK.agg, Array.toList, h3b, r11b, h4b, r4b, h12b, h13b, h14b, h6b, h7b, h22b, h23b, h24b, ofN_length, hge, hwk]
      refine ⟨fun h2 => ⟨h2, h2, fun he => ?_, fun he => ?_⟩, fun h2 => ?_⟩
      · have hm := (hsub j h2).1 (by simpa using he)
        have hx := hmk.1 ⟨_, getD_mem 0 h2, hm⟩
        have e := hno hx
        exact again_of ((k + 1, v, true)) (by refine ⟨?_, ?_, ?_, ?_, ?_, ?_, ?_, by dsimp only; omega⟩ <;> (first | (simp (maxSteps := 5000000) -dsimp only [gr, Nat.reduceEqDiff, Nat.reduceLT, Nat.reduceAdd, Nat.reduceMod, Nat.reduceBEq, sid_mod, sid_ne1, sid_ne2, sid_inj, h3a, r11a, h4a, r4a, h12a, h13a, h14a, h3b, r11b, h4b, r4b, h12b, h13b, h14b, h6b, h7b, h22b, h23b, h24b, hwk, e]; first | done | rfl | (simp; done)) | assumption | rfl)) (by first | omega | (simp only; omega) | (dsimp only; omega) | (show _ < _; simp; omega))
      · have hm : ¬ all.getD k 0 &&& (all.drop (k + 1)).getD j 0 = all.getD k 0 := fun h => by rw [(hsub j h2).2 h] at he; simp at he
        have hw2 := wrap_nat h2 (by omega)
        have hall2 : ∀ i, i < j + 1 → all.getD k 0 &&& (all.drop (k + 1)).getD i 0 ≠ all.getD k 0 := fun i hi => by
          rcases Nat.lt_succ_iff_lt_or_eq.1 hi with hi | rfl
          · exact hall i hi
          · exact hm
        exact again_of (j + 1) (by refine ⟨?_, ?_, ?_, ?_, ?_, ?_, ?_, ?_, ?_, ?_, ?_, ?_, ⟨by omega, hall2⟩⟩ <;> (first | (simp (maxSteps := 5000000) -dsimp only [gr, Nat.reduceEqDiff, Nat.reduceLT, Nat.reduceAdd, Nat.reduceMod, Nat.reduceBEq, sid_mod, sid_ne1, sid_ne2, sid_inj, h3b, r11b, h4b, r4b, h12b, h13b, h14b, h6b, h7b, h22b, h23b, h24b, hw2]; first | done | rfl | (simp; done)) | assumption | rfl)) (by first | omega | (simp only; omega) | (dsimp only; omega) | (show _ < _; simp; omega))
      · have hx : extB G.testBit true (all.getD k 0) = true := by
          cases hb : extB G.testBit true (all.getD k 0) with
          | true => rfl
          | false =>
            obtain ⟨t, ht, hst⟩ := hmk.2 hb
            obtain ⟨i, hi, rfl⟩ := mem_getD 0 ht
            exact absurd hst (hall i (by omega))
        have e := hyes hx
        exact ⟨by omega, again_of ((k + 1, v + 1, true)) (by refine ⟨?_, ?_, ?_, ?_, ?_, ?_, ?_, by dsimp only; omega⟩ <;> (first | (simp (maxSteps := 5000000) -dsimp only [gr, Nat.reduceEqDiff, Nat.reduceLT, Nat.reduceAdd, Nat.reduceMod, Nat.reduceBEq, sid_mod, sid_ne1, sid_ne2, sid_inj, h3a, r11a, h4a, r4a, h12a, h13a, h14a, h3b, r11b, h4b, r4b, h12b, h13b, h14b, h6b, h7b, h22b, h23b, h24b, hwk, e]; first | done | rfl | (simp; done)) | assumption | rfl)) (by first | omega | (simp only; omega) | (dsimp only; omega) | (show _ < _; simp; omega))⟩
  · simp (maxSteps := 5000000) -dsimp only [↓gp, gq, reduceCtorEq, Nat.reduceEqDiff, Nat.reduceLT, Nat.reduceLeDiff, Nat.reduceAdd, Nat.reduceMul, Nat.reduceSub, Nat.reduceBEq, Int.reduceToNat, Int.reduceLE, Int.reduceLT, Int.reduceNeg, Nat.reduceMod, sid_ne1, sid_ne2, sid_inj, sid_mod, gT, TK.isInt, TK.agg, Array.toList, h3a, r11a, h4a, r4a, h12a, h13a, h14a, ofN_length]
    refine ⟨fun h => absurd h hk, fun _ => ?_⟩
    have : k = all.length := by omega
    rw [this, List.take_length]
end Go.Proofs.YtmpjajhklilleaaDoor

namespace Go.Proofs.YtmpjajhklilleaaDoor
open Go.Abs
set_option linter.unusedSimpArgs false
set_option linter.unusedVariables false

theorem c_impl_complexOf (n : Int) (G : Nat) (hG : G < 18446744073709551616) : AC Tryd.prog 42 [int n, u64 G] (.ag [.im (int n), .fr 3 1 (iL (ofN (extN G.testBit true)))]) := by
  refine AC.go (rs := [.cell 4 31]) T_ok mixed Tryd.func42 rfl rfl rfl (by kernel_rfl) fun hl => ?_
  simp (maxSteps := 5000000) -dsimp only [↓gp, gq, reduceCtorEq, Nat.reduceEqDiff, Nat.reduceLT, Nat.reduceLeDiff, Nat.reduceAdd, Nat.reduceMul, Nat.reduceSub, Nat.reduceBEq, Int.reduceToNat, Int.reduceLE, Int.reduceLT, Int.reduceNeg, Nat.reduceMod, sid_ne1, sid_ne2, sid_inj, sid_mod, gT, TK.isInt, TK.agg, Array.toList]
  refine askK_of (c_impl_maximalIn G hG) ?_
  simp (maxSteps := 5000000) -dsimp only [↓gp, gq, reduceCtorEq, Nat.reduceEqDiff, Nat.reduceLT, Nat.reduceLeDiff, Nat.reduceAdd, Nat.reduceMul, Nat.reduceSub, Nat.reduceBEq, Int.reduceToNat, Int.reduceLE, Int.reduceLT, Int.reduceNeg, Nat.reduceMod, sid_ne1, sid_ne2, sid_inj, sid_mod, gT, TK.isInt, TK.agg, Array.toList]
end Go.Proofs.YtmpjajhklilleaaDoor
