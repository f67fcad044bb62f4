/- DERIVED by an AI agent. -/
import Derived.Test.YtmpjajhklilleaaDoorQ2
import Derived.Test.YtmpjajhklilleaaDoorQ3
import Derived.Test.YtmpjajhklilleaaDoorA15
import Derived.Test.YtmpjajhklilleaaDoorP1
namespace Go.Proofs.YtmpjajhklilleaaDoor
open Go.Abs
set_option linter.unusedSimpArgs false
set_option linter.unusedVariables false

theorem c_spec_FaceCounts (n : Int) (xs : List Int) : AC Tryd.prog 70 [.ag [int n, ints xs]] (.fr 3 1 (iL (fvec (facF n xs)))) := by
  refine AC.go (rs := [.tmp 2]) T_ok mixed Tryd.func70 rfl rfl rfl (by kernel_rfl) fun hl => ?_
  simp (maxSteps := 5000000) -dsimp only [↓gp, gq, reduceCtorEq, Nat.reduceEqDiff, Nat.reduceLT, Nat.reduceLeDiff, Nat.reduceAdd, Nat.reduceMul, Nat.reduceSub, Nat.reduceBEq, Int.reduceToNat, Int.reduceLE, Int.reduceLT, Int.reduceNeg, Nat.reduceMod, sid_ne1, sid_ne2, sid_inj, sid_mod, gT, TK.isInt, TK.agg, Array.toList]
  refine askK_of (c_spec_FacesOf n xs) ?_
  simp (maxSteps := 5000000) -dsimp only [↓gp, gq, reduceCtorEq, Nat.reduceEqDiff, Nat.reduceLT, Nat.reduceLeDiff, Nat.reduceAdd, Nat.reduceMul, Nat.reduceSub, Nat.reduceBEq, Int.reduceToNat, Int.reduceLE, Int.reduceLT, Int.reduceNeg, Nat.reduceMod, sid_ne1, sid_ne2, sid_inj, sid_mod, gT, TK.isInt, TK.agg, Array.toList]
  have hfull := ordN_len (facF n xs)
  have hmem : ∀ i, i < (ordN (facF n xs)).length → (ordN (facF n xs)).getD i 0 < 64 := fun i h => ordN_mem64 h
  have hmx := mxL_ordN (facF n xs)
  have hd7 := dimN_le (facF n xs)
  unfold fvec
  generalize ordN (facF n xs) = all at *
  refine loop_of (fun (za : Nat × Nat × Nat) s => match za with | (i, v, u) => s.sl 3 = .own 6 v ∧ s.rw 6 = ⟨v, .sli 3 1 false (iL (cnts (all.take i) (mxL (all.take i))))⟩ ∧ s.sl 4 = .own 8 u ∧ s.rw 8 = ⟨u, .sli 3 1 false (iL (ofN all))⟩ ∧ s.sl 5 = int i ∧ (i ≤ all.length)) (fun (i, v, u) => all.length - i) ((0, 1, 1)) (by refine ⟨?_, ?_, ?_, ?_, ?_, by simp⟩ <;> (first | (simp (maxSteps := 5000000) -dsimp only [gr, Nat.reduceEqDiff, Nat.reduceLT, Nat.reduceAdd, Nat.reduceMod, Nat.reduceBEq, sid_mod, sid_ne1, sid_ne2, sid_inj, mxL, cnts]; first | done | rfl | (simp; done)) | assumption | rfl)) ?_
  intro (i, v, u) sa ⟨h3a, r6a, h4a, r8a, h5a, hIa⟩
  simp (maxSteps := 5000000) -dsimp only [↓gp, gq, reduceCtorEq, Nat.reduceEqDiff, Nat.reduceLT, Nat.reduceLeDiff, Nat.reduceAdd, Nat.reduceMul, Nat.reduceSub, Nat.reduceBEq, Int.reduceToNat, Int.reduceLE, Int.reduceLT, Int.reduceNeg, Nat.reduceMod, sid_ne1, sid_ne2, sid_inj, sid_mod, gT, TK.isInt, TK.agg, Array.toList, h3a, r6a, h4a, r8a, h5a, ofN_length]
  refine ⟨fun h => ?_, fun h => ?_⟩
  · have hi := hmem i h
    have hge : (ofN all).getD i 0 = ((all.getD i 0 : Nat) : Int) := ofN_getD h
    have hsn := take_snoc 0 h
    have hmi := mxL_snoc (all.take i) (all.getD i 0)
    rw [← hsn] at hmi
    have hmle := mxL_take (l := all) (k := i + 1)
    have hp6 := pop_le6 hi
    refine loop_of (fun (zb : Nat × Nat) s => match zb with | (w, m) => s.sl 3 = .own 6 w ∧ s.rw 6 = ⟨w, .sli 3 1 false (iL (cnts (all.take i) m))⟩ ∧ s.sl 4 = .own 8 u ∧ s.rw 8 = ⟨u, .sli 3 1 false (iL (ofN all))⟩ ∧ s.sl 5 = int i ∧ (mxL (all.take i) ≤ m ∧ m ≤ mxL (all.take (i + 1)))) (fun (w, m) => mxL (all.take (i + 1)) - m) ((v, mxL (all.take i))) (by refine ⟨?_, ?_, ?_, ?_, ?_, ⟨by omega, by omega⟩⟩ <;> (first | (simp (maxSteps := 5000000) -dsimp only [gr, Nat.reduceEqDiff, Nat.reduceLT, Nat.reduceAdd, Nat.reduceMod, Nat.reduceBEq, sid_mod, sid_ne1, sid_ne2, sid_inj, h3a, r6a, h4a, r8a, h5a]; first | done | rfl | (simp; done)) | assumption | rfl)) ?_
    intro (w, m) sb ⟨h3b, r6b, h4b, r8b, h5b, hIb⟩
    obtain ⟨hm1, hm2⟩ := hIb
    simp (maxSteps := 5000000) -dsimp only [↓gp, gq, reduceCtorEq, Nat.reduceEqDiff, Nat.reduceLT, Nat.reduceLeDiff, Nat.reduceAdd, Nat.reduceMul, Nat.reduceSub, Nat.reduceBEq, Int.reduceToNat, Int.reduceLE, Int.reduceLT, Int.reduceNeg, Nat.reduceMod, sid_ne1, sid_ne2, sid_inj, sid_mod, gT, TK.isInt, TK.agg, Array.toList, h3b, r6b, h4b, r8b, h5b, ofN_length, cnts_length, hge]
    refine ⟨h, h, askK_of (c_spec_l2Size _ (by omega)) ?_⟩
    simp (maxSteps := 5000000) -dsimp only [↓gp, gq, reduceCtorEq, Nat.reduceEqDiff, Nat.reduceLT, Nat.reduceLeDiff, Nat.reduceAdd, Nat.reduceMul, Nat.reduceSub, Nat.reduceBEq, Int.reduceToNat, Int.reduceLE, Int.reduceLT, Int.reduceNeg, Nat.reduceMod, sid_ne1, sid_ne2, sid_inj, sid_mod, gT, TK.isInt, TK.agg, Array.toList, h3b, r6b, h4b, r8b, h5b, ofN_length, cnts_length, hge]
    refine ⟨fun h2 => ⟨by omega, ?_⟩, fun h2 => ?_⟩
    · have e : cnts (all.take i) m ++ [0] = cnts (all.take i) (m + 1) := cnts_grow _ hm1
      exact again_of ((w + 1, m + 1)) (by refine ⟨?_, ?_, ?_, ?_, ?_, ⟨by dsimp only; omega, by dsimp only; omega⟩⟩ <;> (first | (simp (maxSteps := 5000000) -dsimp only [gr, Nat.reduceEqDiff, Nat.reduceLT, Nat.reduceAdd, Nat.reduceMod, Nat.reduceBEq, sid_mod, sid_ne1, sid_ne2, sid_inj, h3b, r6b, h4b, r8b, h5b, e]; first | done | rfl | (simp; done)) | assumption | rfl)) (by first | omega | (simp only; omega) | (dsimp only; omega) | (show _ < _; simp; omega))
    · have hgm : (cnts (all.take i) m).getD (popN (all.getD i 0)) 0 = (cntL (all.take i) (popN (all.getD i 0)) : Int) := cnts_getD _ (by omega)
      have hcl : cntL (all.take i) (popN (all.getD i 0)) ≤ 448 := by
        have := List.length_filter_le (fun s => popN s == popN (all.getD i 0)) (all.take i)
        rw [List.length_take] at this
        unfold cntL; omega
      have hw : IntKind.i64.wrap ((cntL (all.take i) (popN (all.getD i 0)) : Int) + 1) = (cntL (all.take i) (popN (all.getD i 0)) : Int) + 1 := wrap_id (by omega) (by omega)
      have hme : m = mxL (all.take (i + 1)) := by omega
      have hadd := cnts_add (all.take i) (all.getD i 0) m (by omega)
      rw [← hsn] at hadd
      refine ⟨by kernel_rfl, h, h, askK_of (c_spec_l2Size _ (by omega)) ?_⟩
      simp (maxSteps := 5000000) -dsimp only [↓gp, gq, reduceCtorEq, Nat.reduceEqDiff, Nat.reduceLT, Nat.reduceLeDiff, Nat.reduceAdd, Nat.reduceMul, Nat.reduceSub, Nat.reduceBEq, Int.reduceToNat, Int.reduceLE, Int.reduceLT, Int.reduceNeg, Nat.reduceMod, sid_ne1, sid_ne2, sid_inj, sid_mod, gT, TK.isInt, TK.agg, Array.toList, h3b, r6b, h4b, r8b, h5b, ofN_length, cnts_length, hge]
      refine ⟨h, h, askK_of (c_spec_l2Size _ (by omega)) ?_⟩
      simp (maxSteps := 5000000) -dsimp only [↓gp, gq, reduceCtorEq, Nat.reduceEqDiff, Nat.reduceLT, Nat.reduceLeDiff, Nat.reduceAdd, Nat.reduceMul, Nat.reduceSub, Nat.reduceBEq, Int.reduceToNat, Int.reduceLE, Int.reduceLT, Int.reduceNeg, Nat.reduceMod, sid_ne1, sid_ne2, sid_inj, sid_mod, gT, TK.isInt, TK.agg, Array.toList, h3b, r6b, h4b, r8b, h5b, ofN_length, cnts_length, hge, hgm, hw, hadd]
      refine ⟨by omega, by omega, by omega, by omega, by kernel_rfl, ?_⟩
      subst hme
      exact again_of ((i + 1, w, u)) (by refine ⟨?_, ?_, ?_, ?_, ?_, by dsimp only; omega⟩ <;> (first | (simp (maxSteps := 5000000) -dsimp only [gr, Nat.reduceEqDiff, Nat.reduceLT, Nat.reduceAdd, Nat.reduceMod, Nat.reduceBEq, sid_mod, sid_ne1, sid_ne2, sid_inj, h3a, r6a, h4a, r8a, h5a, h3b, r6b, h4b, r8b, h5b, wrap_nat h (by omega)]; first | done | rfl | (simp; done)) | assumption | rfl)) (by first | omega | (simp only; omega) | (dsimp only; omega) | (show _ < _; simp; omega))
  · have : i = all.length := by omega
    rw [this, List.take_length, hmx]
theorem c_spec_l13Sign (a b : Nat) (ha : a < 64) (hb : b < 64) (hp : popN b = popN a + 1) : AC Tryd.prog 88 [int a, int b] (.im (int (sgnN a b))) := by
  refine AC.go (rs := [.tmp 4]) T_ok mixed Tryd.func88 rfl rfl rfl (by kernel_rfl) fun hl => ?_
  have hpa := pop_le6 ha
  have hpb := pop_le6 hb
  have hand := iand_nat (a := a) (b := b) (by omega) (by omega)
  have hw1 : IntKind.i64.wrap ((popN b : Int) - (popN a : Int)) = 1 := by rw [wrap_id (by omega) (by omega)]; omega
  simp (maxSteps := 5000000) -dsimp only [↓gp, gq, reduceCtorEq, Nat.reduceEqDiff, Nat.reduceLT, Nat.reduceLeDiff, Nat.reduceAdd, Nat.reduceMul, Nat.reduceSub, Nat.reduceBEq, Int.reduceToNat, Int.reduceLE, Int.reduceLT, Int.reduceNeg, Nat.reduceMod, sid_ne1, sid_ne2, sid_inj, sid_mod, gT, TK.isInt, TK.agg, Array.toList, hand]
  refine ⟨fun h => askK_of (c_spec_l2Size b (by omega)) ?_, fun h => ?_⟩
  · have hs : a &&& b = a := by
      have h9 : ((a &&& b : Nat) : Int) = a := by simpa using h
      omega
    obtain ⟨hle, hx⟩ := sgn_diff a ha b hb hs
    simp (maxSteps := 5000000) -dsimp only [↓gp, gq, reduceCtorEq, Nat.reduceEqDiff, Nat.reduceLT, Nat.reduceLeDiff, Nat.reduceAdd, Nat.reduceMul, Nat.reduceSub, Nat.reduceBEq, Int.reduceToNat, Int.reduceLE, Int.reduceLT, Int.reduceNeg, Nat.reduceMod, sid_ne1, sid_ne2, sid_inj, sid_mod, gT, TK.isInt, TK.agg, Array.toList]
    refine askK_of (c_spec_l2Size a (by omega)) ?_
    have hne : a ≠ b := fun e => by rw [e] at hp; omega
    have hw2 : IntKind.i64.wrap ((b : Int) - (a : Int)) = ((b - a : Nat) : Int) := by rw [wrap_id (by omega) (by omega)]; omega
    have hw3 : IntKind.i64.wrap (((b - a : Nat) : Int) - 1) = ((b - a - 1 : Nat) : Int) := by rw [wrap_id (by omega) (by omega)]; omega
    have hand2 := iand_nat (a := b) (b := b - a - 1) (by omega) (by omega)
    have hlt : b &&& (b - a - 1) < 64 := by have : b &&& (b - a - 1) ≤ b := Nat.and_le_left; omega
    have hp6 := pop_le6 hlt
    have h11 : ((1 : Int) != 1) = false := rfl
    simp (maxSteps := 5000000) -dsimp only [↓gp, gq, reduceCtorEq, Nat.reduceEqDiff, Nat.reduceLT, Nat.reduceLeDiff, Nat.reduceAdd, Nat.reduceMul, Nat.reduceSub, Nat.reduceBEq, Int.reduceToNat, Int.reduceLE, Int.reduceLT, Int.reduceNeg, Nat.reduceMod, sid_ne1, sid_ne2, sid_inj, sid_mod, gT, TK.isInt, TK.agg, Array.toList, hw1, hw2, hw3, hand2, h11]
    refine askK_of (c_spec_l2Size _ (by omega)) ?_
    have hmod : ((popN (b &&& (b - a - 1)) : Nat) : Int).tmod 2 = ((popN (b &&& (b - a - 1)) % 2 : Nat) : Int) := by rw [tmod_nn (by omega)]; omega
    have hw4 : IntKind.i64.wrap (2 * ((popN (b &&& (b - a - 1)) % 2 : Nat) : Int)) = 2 * ((popN (b &&& (b - a - 1)) % 2 : Nat) : Int) := wrap_id (by omega) (by omega)
    have hw5 : IntKind.i64.wrap (1 - 2 * ((popN (b &&& (b - a - 1)) % 2 : Nat) : Int)) = 1 - 2 * ((popN (b &&& (b - a - 1)) % 2 : Nat) : Int) := wrap_id (by omega) (by omega)
    simp (maxSteps := 5000000) -dsimp only [↓gp, gq, reduceCtorEq, Nat.reduceEqDiff, Nat.reduceLT, Nat.reduceLeDiff, Nat.reduceAdd, Nat.reduceMul, Nat.reduceSub, Nat.reduceBEq, Int.reduceToNat, Int.reduceLE, Int.reduceLT, Int.reduceNeg, Nat.reduceMod, sid_ne1, sid_ne2, sid_inj, sid_mod, gT, TK.isInt, TK.agg, Array.toList, hmod, hw4, hw5]
    unfold sgnN
    rw [if_pos hs]
    split <;> omega
  · have hs : ¬ a &&& b = a := by
      intro e
      rw [e] at h
      simp at h
    unfold sgnN
    rw [if_neg hs]
theorem bordM_snoc {l h : List Nat} {i : Nat} (hi : i < l.length) : bordM (l.take i) h ++ [h.map fun b => sgnN (l.getD i 0) b] = bordM (l.take (i + 1)) h := by
  rw [take_snoc 0 hi]; simp [bordM]
theorem c_spec_l13Border (n : Int) (xs : List Int) (k : Nat) (hk : 1 ≤ k) (hk7 : k ≤ 7) : AC Tryd.prog 72 [.ag [int n, ints xs], int k] (.fr 22 1 (iLL (bordM (ordS (facF n xs) (k - 1) 64) (ordS (facF n xs) k 64)))) := by
  refine AC.go (rs := [.tmp 4]) T_ok mixed Tryd.func72 rfl rfl rfl (by kernel_rfl) fun hl => ?_
  have hw1 : IntKind.i64.wrap ((k : Int) - 1) = ((k - 1 : Nat) : Int) := by rw [wrap_id (by omega) (by omega)]; omega
  simp (maxSteps := 5000000) -dsimp only [↓gp, gq, reduceCtorEq, Nat.reduceEqDiff, Nat.reduceLT, Nat.reduceLeDiff, Nat.reduceAdd, Nat.reduceMul, Nat.reduceSub, Nat.reduceBEq, Int.reduceToNat, Int.reduceLE, Int.reduceLT, Int.reduceNeg, Nat.reduceMod, sid_ne1, sid_ne2, sid_inj, sid_mod, gT, TK.isInt, TK.agg, Array.toList, hw1]
  refine askK_of (c_spec_FacesOfSizeN n xs (k - 1)) ?_
  simp (maxSteps := 5000000) -dsimp only [↓gp, gq, reduceCtorEq, Nat.reduceEqDiff, Nat.reduceLT, Nat.reduceLeDiff, Nat.reduceAdd, Nat.reduceMul, Nat.reduceSub, Nat.reduceBEq, Int.reduceToNat, Int.reduceLE, Int.reduceLT, Int.reduceNeg, Nat.reduceMod, sid_ne1, sid_ne2, sid_inj, sid_mod, gT, TK.isInt, TK.agg, Array.toList]
  refine askK_of (c_spec_FacesOfSizeN n xs k) ?_
  simp (maxSteps := 5000000) -dsimp only [↓gp, gq, reduceCtorEq, Nat.reduceEqDiff, Nat.reduceLT, Nat.reduceLeDiff, Nat.reduceAdd, Nat.reduceMul, Nat.reduceSub, Nat.reduceBEq, Int.reduceToNat, Int.reduceLE, Int.reduceLT, Int.reduceNeg, Nat.reduceMod, sid_ne1, sid_ne2, sid_inj, sid_mod, gT, TK.isInt, TK.agg, Array.toList]
  have hl1 := ordS_len (facF n xs) (k - 1) (Nat.le_refl 64)
  have hl2 := ordS_len (facF n xs) k (Nat.le_refl 64)
  have hm1 : ∀ i, i < (ordS (facF n xs) (k - 1) 64).length → (ordS (facF n xs) (k - 1) 64).getD i 0 < 64 ∧ popN ((ordS (facF n xs) (k - 1) 64).getD i 0) = k - 1 := fun i hi => by
    have := mem_ordS.1 (getD_mem 0 hi); exact ⟨this.1, this.2.2⟩
  have hm2 : ∀ i, i < (ordS (facF n xs) k 64).length → (ordS (facF n xs) k 64).getD i 0 < 64 ∧ popN ((ordS (facF n xs) k 64).getD i 0) = k := fun i hi => by
    have := mem_ordS.1 (getD_mem 0 hi); exact ⟨this.1, this.2.2⟩
  generalize ordS (facF n xs) (k - 1) 64 = lo at *
  generalize ordS (facF n xs) k 64 = hi at *
  refine loop_of (fun (za : Nat × Nat × Nat × Nat) s => match za with | (i, v, a, b) => s.sl 5 = .own 11 v ∧ s.rw 11 = ⟨v, .sli 22 1 false (iLL (bordM (lo.take i) hi))⟩ ∧ s.sl 6 = .own 15 a ∧ s.rw 15 = ⟨a, .sli 3 1 false (iL (ofN lo))⟩ ∧ s.sl 7 = .own 18 b ∧ s.rw 18 = ⟨b, .sli 3 1 false (iL (ofN hi))⟩ ∧ s.sl 8 = int i ∧ (i ≤ lo.length)) (fun (i, v, a, b) => lo.length - i) ((0, 1, 1, 1)) (by refine ⟨?_, ?_, ?_, ?_, ?_, ?_, ?_, by simp⟩ <;> (first | (simp (maxSteps := 5000000) -dsimp only [gr, Nat.reduceEqDiff, Nat.reduceLT, Nat.reduceAdd, Nat.reduceMod, Nat.reduceBEq, sid_mod, sid_ne1, sid_ne2, sid_inj, bordM, iLL]; first | done | rfl | (simp; done)) | assumption | rfl)) ?_
  intro (i, v, a, b) sa ⟨h5a, r11a, h6a, r15a, h7a, r18a, h8a, hIa⟩
  have hbl : (bordM (lo.take i) hi).length = min i lo.length := by rw [bordM_length, List.length_take]
  simp (maxSteps := 5000000) -dsimp only [↓gp, gq, reduceCtorEq, Nat.reduceEqDiff, Nat.reduceLT, Nat.reduceLeDiff, Nat.reduceAdd, Nat.reduceMul, Nat.reduceSub, Nat.reduceBEq, Int.reduceToNat, Int.reduceLE, Int.reduceLT, Int.reduceNeg, Nat.reduceMod, sid_ne1, sid_ne2, sid_inj, sid_mod, gT, TK.isInt, TK.agg, Array.toList, h5a, r11a, h6a, r15a, h7a, r18a, h8a, ofN_length]
  refine ⟨fun h => ?_, fun h => ?_⟩
  · have hge : (ofN lo).getD i 0 = ((lo.getD i 0 : Nat) : Int) := ofN_getD h
    refine loop_of (fun (zb : Nat × Nat) s => match zb with | (j, u) => s.sl 5 = .own 11 v ∧ s.rw 11 = ⟨v, .sli 22 1 false (iLL (bordM (lo.take i) hi))⟩ ∧ s.sl 6 = .own 15 a ∧ s.rw 15 = ⟨a, .sli 3 1 false (iL (ofN lo))⟩ ∧ s.sl 7 = .own 18 b ∧ s.rw 18 = ⟨b, .sli 3 1 false (iL (ofN hi))⟩ ∧ s.sl 8 = int i ∧ s.sl 9 = .own 25 u ∧ s.rw 25 = ⟨u, .sli 3 1 false (iL ((hi.take j).map fun b => sgnN (lo.getD i 0) b))⟩ ∧ s.sl 10 = int j ∧ (j ≤ hi.length)) (fun (j, u) => hi.length - j) ((0, (sa.rw 25).ver + 1)) (by refine ⟨?_, ?_, ?_, ?_, ?_, ?_, ?_, ?_, ?_, ?_, by omega⟩ <;> (first | (simp (maxSteps := 5000000) -dsimp only [gr, Nat.reduceEqDiff, Nat.reduceLT, Nat.reduceAdd, Nat.reduceMod, Nat.reduceBEq, sid_mod, sid_ne1, sid_ne2, sid_inj, h5a, r11a, h6a, r15a, h7a, r18a, h8a]; first | done | rfl | (simp; done)) | assumption | rfl)) ?_
    intro (j, u) sb ⟨h5b, r11b, h6b, r15b, h7b, r18b, h8b, h9b, r25b, h10b, hIb⟩
    simp (maxSteps := 5000000) -dsimp only [↓gp, gq, reduceCtorEq, Nat.reduceEqDiff, Nat.reduceLT, Nat.reduceLeDiff, Nat.reduceAdd, Nat.reduceMul, Nat.reduceSub, Nat.reduceBEq, Int.reduceToNat, Int.reduceLE, Int.reduceLT, Int.reduceNeg, Nat.reduceMod, sid_ne1, sid_ne2, sid_inj, sid_mod, gT, TK.isInt, TK.agg, Array.toList, h5b, r11b, h6b, r15b, h7b, r18b, h8b, h9b, r25b, h10b, ofN_length]
    refine ⟨fun h2 => ?_, fun h2 => ?_⟩
    · have hge2 : (ofN hi).getD j 0 = ((hi.getD j 0 : Nat) : Int) := ofN_getD h2
      have ha := hm1 i h
      have hb := hm2 j h2
      simp (maxSteps := 5000000) -dsimp only [↓gp, gq, reduceCtorEq, Nat.reduceEqDiff, Nat.reduceLT, Nat.reduceLeDiff, Nat.reduceAdd, Nat.reduceMul, Nat.reduceSub, Nat.reduceBEq, Int.reduceToNat, Int.reduceLE, Int.reduceLT, Int.reduceNeg, Nat.reduceMod, sid_ne1, sid_ne2, sid_inj, sid_mod, gT, TK.isInt, TK.agg, Array.toList, h5b, r11b, h6b, r15b, h7b, r18b, h8b, h9b, r25b, h10b, ofN_length, hge, hge2]
      refine ⟨by kernel_rfl, h, h, h2, h2, askK_of (c_spec_l13Sign _ _ ha.1 hb.1 (by omega)) ?_⟩
      simp (maxSteps := 5000000) -dsimp only [↓gp, gq, reduceCtorEq, Nat.reduceEqDiff, Nat.reduceLT, Nat.reduceLeDiff, Nat.reduceAdd, Nat.reduceMul, Nat.reduceSub, Nat.reduceBEq, Int.reduceToNat, Int.reduceLE, Int.reduceLT, Int.reduceNeg, Nat.reduceMod, sid_ne1, sid_ne2, sid_inj, sid_mod, gT, TK.isInt, TK.agg, Array.toList, h5b, r11b, h6b, r15b, h7b, r18b, h8b, h9b, r25b, h10b, ofN_length, hge, hge2]
      have e : (hi.take (j + 1)).map (fun b => sgnN (lo.getD i 0) b) = (hi.take j).map (fun b => sgnN (lo.getD i 0) b) ++ [sgnN (lo.getD i 0) (hi.getD j 0)] := by rw [take_snoc 0 h2]; simp
      refine ⟨by rw [List.length_map, List.length_take]; omega, by kernel_rfl, ?_⟩
      exact again_of ((j + 1, u + 1)) (by refine ⟨?_, ?_, ?_, ?_, ?_, ?_, ?_, ?_, ?_, ?_, by dsimp only; omega⟩ <;> (first | (simp (maxSteps := 5000000) -dsimp only [gr, Nat.reduceEqDiff, Nat.reduceLT, Nat.reduceAdd, Nat.reduceMod, Nat.reduceBEq, sid_mod, sid_ne1, sid_ne2, sid_inj, h5b, r11b, h6b, r15b, h7b, r18b, h8b, h9b, r25b, h10b, wrap_nat h2 (by omega), e]; first | done | rfl | (simp; done)) | assumption | rfl)) (by first | omega | (simp only; omega) | (dsimp only; omega) | (show _ < _; simp; omega))
    · have hj : j = hi.length := by omega
      subst hj
      rw [List.take_length] at r25b
      refine orB_l ?_
      simp (maxSteps := 5000000) -dsimp only [↓gp, gq, reduceCtorEq, Nat.reduceEqDiff, Nat.reduceLT, Nat.reduceLeDiff, Nat.reduceAdd, Nat.reduceMul, Nat.reduceSub, Nat.reduceBEq, Int.reduceToNat, Int.reduceLE, Int.reduceLT, Int.reduceNeg, Nat.reduceMod, sid_ne1, sid_ne2, sid_inj, sid_mod, gT, TK.isInt, TK.agg, Array.toList, h5b, r11b, h6b, r15b, h7b, r18b, h8b, h9b, r25b, h10b, hbl, iLL_length]
      have e := bordM_snoc (h := hi) h
      refine ⟨by omega, ?_⟩
      exact again_of ((i + 1, v + 1, a, b)) (by refine ⟨?_, ?_, ?_, ?_, ?_, ?_, ?_, by dsimp only; omega⟩ <;> (first | (simp (maxSteps := 5000000) -dsimp only [gr, Nat.reduceEqDiff, Nat.reduceLT, Nat.reduceAdd, Nat.reduceMod, Nat.reduceBEq, sid_mod, sid_ne1, sid_ne2, sid_inj, h5a, r11a, h6a, r15a, h7a, r18a, h8a, h5b, r11b, h6b, r15b, h7b, r18b, h8b, h9b, r25b, h10b, wrap_nat h (by omega), iLL_snoc, e]; first | done | rfl | (simp; done)) | assumption | rfl)) (by first | omega | (simp only; omega) | (dsimp only; omega) | (show _ < _; simp; omega))
  · have : i = lo.length := by omega
    rw [this, List.take_length]
theorem rkF_in {f : Nat → Bool} {p : Int} {k : Nat} (h : k + 1 < dimN f) : rkF f p (k + 1) = rankM p (bordM (ordS f k 64) (ordS f (k + 1) 64)) := by
  unfold rkF
  rw [if_neg (by omega)]; rfl
theorem rkF_out {f : Nat → Bool} {p : Int} {k : Nat} (h : dimN f ≤ k) : rkF f p k = 0 := by
  unfold rkF
  rw [if_pos (.inr h)]
def holR (f : Nat → Bool) (p : Int) : List Int := if isP p = true then holF f p else []
theorem c_spec_HolesMod (n : Int) (xs : List Int) (p : Int) : AC Tryd.prog 48 [.ag [int n, ints xs], int p] (.fr 3 1 (iL (holR (facF n xs) p))) := by
  refine AC.go (rs := [.tmp 4]) T_ok mixed Tryd.func48 rfl rfl rfl (by kernel_rfl) fun hl => ?_
  simp (maxSteps := 5000000) -dsimp only [↓gp, gq, reduceCtorEq, Nat.reduceEqDiff, Nat.reduceLT, Nat.reduceLeDiff, Nat.reduceAdd, Nat.reduceMul, Nat.reduceSub, Nat.reduceBEq, Int.reduceToNat, Int.reduceLE, Int.reduceLT, Int.reduceNeg, Nat.reduceMod, sid_ne1, sid_ne2, sid_inj, sid_mod, gT, TK.isInt, TK.agg, Array.toList]
  refine askK_of (c_spec_FaceCounts n xs) ?_
  simp (maxSteps := 5000000) -dsimp only [↓gp, gq, reduceCtorEq, Nat.reduceEqDiff, Nat.reduceLT, Nat.reduceLeDiff, Nat.reduceAdd, Nat.reduceMul, Nat.reduceSub, Nat.reduceBEq, Int.reduceToNat, Int.reduceLE, Int.reduceLT, Int.reduceNeg, Nat.reduceMod, sid_ne1, sid_ne2, sid_inj, sid_mod, gT, TK.isInt, TK.agg, Array.toList]
  refine askK_of (c_spec_IsFieldPrime p) ?_
  simp (maxSteps := 5000000) -dsimp only [↓gp, gq, reduceCtorEq, Nat.reduceEqDiff, Nat.reduceLT, Nat.reduceLeDiff, Nat.reduceAdd, Nat.reduceMul, Nat.reduceSub, Nat.reduceBEq, Int.reduceToNat, Int.reduceLE, Int.reduceLT, Int.reduceNeg, Nat.reduceMod, sid_ne1, sid_ne2, sid_inj, sid_mod, gT, TK.isInt, TK.agg, Array.toList]
  unfold holR
  refine ⟨fun hp => ?_, fun hp => ?_⟩
  · have hp : isP p = false := by simpa using hp
    rw [hp]; rfl
  · have hp : isP p = true := by simpa using hp
    rw [if_pos hp]
    have hd7 := dimN_le (facF n xs)
    have hfl := fvec_length (facF n xs)
    generalize hf : facF n xs = f at *
    refine loop_of (fun (za : Nat × Nat × Nat) s => match za with | (k, v, w) => s.sl 1 = int p ∧ s.sl 2 = .ref 2 1 0 ∧ s.rw 2 = ⟨1, .box 31 [int n, ints xs]⟩ ∧ s.sl 5 = .own 10 v ∧ s.rw 10 = ⟨v, .sli 3 1 false (iL ((holF f p).take k))⟩ ∧ s.sl 6 = .own 12 w ∧ s.rw 12 = ⟨w, .sli 3 1 false (iL (fvec f))⟩ ∧ s.sl 7 = int (rkF f p k) ∧ s.sl 8 = int k ∧ (k ≤ dimN f)) (fun (k, v, w) => dimN f - k) ((0, 1, 1)) (by refine ⟨?_, ?_, ?_, ?_, ?_, ?_, ?_, ?_, ?_, by simp⟩ <;> (first | (simp (maxSteps := 5000000) -dsimp only [gr, Nat.reduceEqDiff, Nat.reduceLT, Nat.reduceAdd, Nat.reduceMod, Nat.reduceBEq, sid_mod, sid_ne1, sid_ne2, sid_inj, rkF]; first | done | rfl | (simp; done)) | assumption | rfl)) ?_
    intro (k, v, w) sa ⟨h1a, h2a, r2a, h5a, r10a, h6a, r12a, h7a, h8a, hIa⟩
    simp (maxSteps := 5000000) -dsimp only [↓gp, gq, reduceCtorEq, Nat.reduceEqDiff, Nat.reduceLT, Nat.reduceLeDiff, Nat.reduceAdd, Nat.reduceMul, Nat.reduceSub, Nat.reduceBEq, Int.reduceToNat, Int.reduceLE, Int.reduceLT, Int.reduceNeg, Nat.reduceMod, sid_ne1, sid_ne2, sid_inj, sid_mod, gT, TK.isInt, TK.agg, Array.toList, h1a, h2a, r2a, h5a, r10a, h6a, r12a, h7a, h8a, hfl]
    refine ⟨fun h => ?_, fun h => ?_⟩
    · have hr1 := rkF_le f p k
      have hr2 := rkF_le f p (k + 1)
      have hol := ordS_len f k (Nat.le_refl 64)
      have hg := fvec_getD f h
      have hwk := wrap_nat h (by omega)
      have hw1 : IntKind.i64.wrap (((ordS f k 64).length : Int) - (rkF f p k : Int)) = ((ordS f k 64).length : Int) - (rkF f p k : Int) := wrap_id (by omega) (by omega)
      have hw2 : IntKind.i64.wrap (((ordS f k 64).length : Int) - (rkF f p k : Int) - (rkF f p (k + 1) : Int)) = ((ordS f k 64).length : Int) - (rkF f p k : Int) - (rkF f p (k + 1) : Int) := wrap_id (by omega) (by omega)
      have hts : (holF f p).take (k + 1) = (holF f p).take k ++ [((ordS f k 64).length : Int) - rkF f p k - rkF f p (k + 1)] := by rw [take_snoc 0 (by rw [holF_length]; exact h), holF_getD f p h]
      have htl : ((holF f p).take k).length ≤ 7 := by rw [List.length_take, holF_length]; omega
      simp (maxSteps := 5000000) -dsimp only [↓gp, gq, reduceCtorEq, Nat.reduceEqDiff, Nat.reduceLT, Nat.reduceLeDiff, Nat.reduceAdd, Nat.reduceMul, Nat.reduceSub, Nat.reduceBEq, Int.reduceToNat, Int.reduceLE, Int.reduceLT, Int.reduceNeg, Nat.reduceMod, sid_ne1, sid_ne2, sid_inj, sid_mod, gT, TK.isInt, TK.agg, Array.toList, h1a, h2a, r2a, h5a, r10a, h6a, r12a, h7a, h8a, hfl, hwk]
      refine ⟨fun h2 => askK_of (hf ▸ c_spec_l13Border n xs (k + 1) (by omega) (by omega)) ?_, fun h2 => ?_⟩
      · have hin := rkF_in (p := p) h2
        rw [Nat.add_sub_cancel]
        have hb1 := bordM_length (ordS f k 64) (ordS f (k + 1) 64)
        have hb2 := bordM_rect (ordS f k 64) (ordS f (k + 1) 64)
        have hb3 := bordM_len0 (ordS f k 64) (ordS f (k + 1) 64)
        have hol2 := ordS_len f (k + 1) (Nat.le_refl 64)
        simp (maxSteps := 5000000) -dsimp only [↓gp, gq, reduceCtorEq, Nat.reduceEqDiff, Nat.reduceLT, Nat.reduceLeDiff, Nat.reduceAdd, Nat.reduceMul, Nat.reduceSub, Nat.reduceBEq, Int.reduceToNat, Int.reduceLE, Int.reduceLT, Int.reduceNeg, Nat.reduceMod, sid_ne1, sid_ne2, sid_inj, sid_mod, gT, TK.isInt, TK.agg, Array.toList, h1a, h2a, r2a, h5a, r10a, h6a, r12a, h7a, h8a, hfl, hwk]
        refine askK_of (c_spec_l13Rank _ p hp (by omega) hb2 (by omega)) ?_
        rw [← hin]
        simp (maxSteps := 5000000) -dsimp only [↓gp, gq, reduceCtorEq, Nat.reduceEqDiff, Nat.reduceLT, Nat.reduceLeDiff, Nat.reduceAdd, Nat.reduceMul, Nat.reduceSub, Nat.reduceBEq, Int.reduceToNat, Int.reduceLE, Int.reduceLT, Int.reduceNeg, Nat.reduceMod, sid_ne1, sid_ne2, sid_inj, sid_mod, gT, TK.isInt, TK.agg, Array.toList, h1a, h2a, r2a, h5a, r10a, h6a, r12a, h7a, h8a, hfl, hwk, hg, hw1, hw2]
        refine ⟨h, h, by omega, ?_⟩
        exact again_of ((k + 1, v + 1, w)) (by refine ⟨?_, ?_, ?_, ?_, ?_, ?_, ?_, ?_, ?_, by dsimp only; omega⟩ <;> (first | (simp (maxSteps := 5000000) -dsimp only [gr, Nat.reduceEqDiff, Nat.reduceLT, Nat.reduceAdd, Nat.reduceMod, Nat.reduceBEq, sid_mod, sid_ne1, sid_ne2, sid_inj, h1a, h2a, r2a, h5a, r10a, h6a, r12a, h7a, h8a, hwk, hw1, hw2, hts]; first | done | rfl | (simp; done)) | assumption | rfl)) (by first | omega | (simp only; omega) | (dsimp only; omega) | (show _ < _; simp; omega))
      · have hz := rkF_out (p := p) (show dimN f ≤ k + 1 by omega)
        rw [hz, Int.natCast_zero, Int.sub_zero] at hw2
        rw [hz, Int.natCast_zero, Int.sub_zero] at hts
        simp (maxSteps := 5000000) -dsimp only [↓gp, gq, reduceCtorEq, Nat.reduceEqDiff, Nat.reduceLT, Nat.reduceLeDiff, Nat.reduceAdd, Nat.reduceMul, Nat.reduceSub, Nat.reduceBEq, Int.reduceToNat, Int.reduceLE, Int.reduceLT, Int.reduceNeg, Nat.reduceMod, sid_ne1, sid_ne2, sid_inj, sid_mod, gT, TK.isInt, TK.agg, Array.toList, h1a, h2a, r2a, h5a, r10a, h6a, r12a, h7a, h8a, hfl, hwk, hg, hw1]
        refine ⟨h, h, by omega, ?_⟩
        have hw3 : IntKind.i64.wrap (((ordS f k 64).length : Int) - (rkF f p k : Int) - 0) = ((ordS f k 64).length : Int) - (rkF f p k : Int) := by rw [Int.sub_zero]; exact hw2
        exact again_of ((k + 1, v + 1, w)) (by refine ⟨?_, ?_, ?_, ?_, ?_, ?_, ?_, ?_, ?_, by dsimp only; omega⟩ <;> (first | (simp (maxSteps := 5000000) -dsimp only [gr, Nat.reduceEqDiff, Nat.reduceLT, Nat.reduceAdd, Nat.reduceMod, Nat.reduceBEq, sid_mod, sid_ne1, sid_ne2, sid_inj, h1a, h2a, r2a, h5a, r10a, h6a, r12a, h7a, h8a, hwk, hw1, hw3, hts, hz, Int.natCast_zero]; first | done | rfl | (simp; done)) | assumption | rfl)) (by first | omega | (simp only; omega) | (dsimp only; omega) | (show _ < _; simp; omega))
    · have : k = (holF f p).length := by rw [holF_length]; omega
      rw [this, List.take_length]
end Go.Proofs.YtmpjajhklilleaaDoor

namespace Go.Proofs.YtmpjajhklilleaaDoor
open Go.Abs
set_option linter.unusedSimpArgs false
set_option linter.unusedVariables false

theorem maskF_full (w : Nat → Bool) {G : Nat} (hF : G < 2 ^ 64) (h : ∀ s, s < 64 → G.testBit s = w s) : G = maskF w 64 := by
  refine Nat.eq_of_testBit_eq fun s => ?_
  rw [maskF_bit]
  by_cases hs : s < 64
  · rw [h s hs]; simp [hs]
  · have : G.testBit s = false := Nat.testBit_lt_two_pow (Nat.lt_of_lt_of_le hF (Nat.pow_le_pow_right (by omega) (by omega)))
    simp [this, hs]
theorem mask_bit64 (w : Nat → Bool) {s : Nat} (h : s < 64) : (maskF w 64).testBit s = w s := by rw [maskF_bit]; simp [h]
theorem mask_congr {w w' : Nat → Bool} (h : ∀ s, s < 64 → w s = w' s) : maskF w 64 = maskF w' 64 :=
  maskF_full w' (maskF_lt w 64) fun s hs => by rw [mask_bit64 w hs, h s hs]
theorem mask_or (w w' : Nat → Bool) : maskF w 64 ||| maskF w' 64 = maskF (fun s => w s || w' s) 64 :=
  maskF_full _ (Nat.or_lt_two_pow (maskF_lt w 64) (maskF_lt w' 64)) fun s hs => by rw [Nat.testBit_or, mask_bit64 w hs, mask_bit64 w' hs]
theorem mask_and (w w' : Nat → Bool) : maskF w 64 &&& maskF w' 64 = maskF (fun s => w s && w' s) 64 :=
  maskF_full _ (Nat.lt_of_le_of_lt Nat.and_le_left (maskF_lt w 64)) fun s hs => by rw [Nat.testBit_and, mask_bit64 w hs, mask_bit64 w' hs]
theorem mask_bitor (w : Nat → Bool) {t : Nat} (ht : t < 64) : maskF w 64 ||| 2 ^ t = maskF (fun s => w s || s == t) 64 :=
  maskF_full _ (Nat.or_lt_two_pow (maskF_lt w 64) (Nat.pow_lt_pow_right (by omega) ht)) fun s hs => by
    rw [Nat.testBit_or, mask_bit64 w hs, Nat.testBit_two_pow]
    congr 1
    by_cases e : t = s
    · simp [e]
    · simp [e]; exact fun h => e h.symm
theorem mask_none : maskF (fun _ => false) 64 = 0 := (maskF_full (G := 0) (fun _ => false) (by omega) (fun s _ => by simp)).symm
/-- The subsets of a set. -/
def subB (u : Nat) (t : Nat) : Bool := u &&& t == t
theorem c_impl_subsetFamily (u : Nat) (hu : u < 64) : AC Tryd.prog 65 [int u] (.im (u64 (maskF (subB u) 64 : Nat))) := by
  refine AC.go (rs := [.tmp 2]) T_ok mixed Tryd.func65 rfl rfl rfl (by kernel_rfl) fun hl => ?_
  simp (maxSteps := 5000000) -dsimp only [↓gp, gq, reduceCtorEq, Nat.reduceEqDiff, Nat.reduceLT, Nat.reduceLeDiff, Nat.reduceAdd, Nat.reduceMul, Nat.reduceSub, Nat.reduceBEq, Int.reduceToNat, Int.reduceLE, Int.reduceLT, Int.reduceNeg, Nat.reduceMod, sid_ne1, sid_ne2, sid_inj, sid_mod, gT, TK.isInt, TK.agg, Array.toList]
  have hinit : maskF (fun v => subB u v && decide (u < v)) 64 = 0 := by
    rw [← mask_none]
    refine mask_congr fun v hv => ?_
    cases h : (subB u v && decide (u < v)) with
    | false => rfl
    | true =>
      simp [subB] at h
      have : u &&& v ≤ u := Nat.and_le_left
      omega
  refine loop_of (fun (t : Nat) s => s.sl 0 = int u ∧ s.sl 3 = u64 (maskF (fun v => subB u v && decide (t < v)) 64 : Nat) ∧ s.sl 4 = int t ∧ (t ≤ u ∧ u &&& t = t)) (fun t => t) (u) (by refine ⟨?_, ?_, ?_, ⟨Nat.le_refl _, Nat.and_self u⟩⟩ <;> (first | (simp (maxSteps := 5000000) -dsimp only [gr, Nat.reduceEqDiff, Nat.reduceLT, Nat.reduceAdd, Nat.reduceMod, Nat.reduceBEq, sid_mod, sid_ne1, sid_ne2, sid_inj, hinit]; first | done | rfl | (simp; done)) | assumption | rfl)) ?_
  intro t sa ⟨h0a, h3a, h4a, hIa⟩
  obtain ⟨htu, hts⟩ := hIa
  have hlt := maskF_lt (fun v => subB u v && decide (t < v)) 64
  have hcv : IntKind.u64.wrap (t : Int) = (t : Int) := uwrap_id (by omega)
  have h2t : (2 : Nat) ^ t < 18446744073709551616 := by
    have : (2 : Nat) ^ t < 2 ^ 64 := Nat.pow_lt_pow_right (by omega) (by omega)
    omega
  have hor : ior .u64 (maskF (fun v => subB u v && decide (t < v)) 64 : Nat) (ishl .u64 1 (t : Int)) = ((maskF (fun v => subB u v && decide (t ≤ v)) 64 : Nat) : Int) := by
    rw [ishl_u (by omega), ior_u (by omega) h2t, mask_bitor _ (by omega)]
    congr 1
    refine mask_congr fun v hv => ?_
    by_cases e : v = t
    · subst e; simp [subB, hts]
    · have e1 : decide (t < v) = decide (t ≤ v) := decide_eq_decide.2 (by omega)
      simp [e, e1]
  simp (maxSteps := 5000000) -dsimp only [↓gp, gq, reduceCtorEq, Nat.reduceEqDiff, Nat.reduceLT, Nat.reduceLeDiff, Nat.reduceAdd, Nat.reduceMul, Nat.reduceSub, Nat.reduceBEq, Int.reduceToNat, Int.reduceLE, Int.reduceLT, Int.reduceNeg, Nat.reduceMod, sid_ne1, sid_ne2, sid_inj, sid_mod, gT, TK.isInt, TK.agg, Array.toList, h0a, h3a, h4a, hcv, hor]
  refine ⟨fun h0 => ?_, fun h0 => ?_⟩
  · have : t = 0 := by simp at h0; omega
    subst this
    simp
  · have h0 : ¬ t = 0 := by
      intro e; subst e; simp at h0
    have hw : IntKind.i64.wrap ((t : Int) - 1) = ((t - 1 : Nat) : Int) := by rw [wrap_id (by omega) (by omega)]; omega
    have hand := iand_nat (a := t - 1) (b := u) (by omega) (by omega)
    have hle : (t - 1) &&& u ≤ t - 1 := Nat.and_le_left
    have hnext : maskF (fun v => subB u v && decide ((t - 1) &&& u < v)) 64 = maskF (fun v => subB u v && decide (t ≤ v)) 64 := by
      refine mask_congr fun v hv => ?_
      cases hs : subB u v with
      | false => rfl
      | true =>
        simp only [Bool.true_and]
        refine decide_eq_decide.2 ⟨fun h => ?_, fun h => by omega⟩
        rcases Nat.lt_or_ge v t with h2 | h2
        · have := sub_next u hu t (by omega) (by rw [Nat.and_comm]; exact hts) h0 v h2 (by rw [Nat.and_comm]; simpa [subB] using hs)
          omega
        · exact h2
    simp (maxSteps := 5000000) -dsimp only [↓gp, gq, reduceCtorEq, Nat.reduceEqDiff, Nat.reduceLT, Nat.reduceLeDiff, Nat.reduceAdd, Nat.reduceMul, Nat.reduceSub, Nat.reduceBEq, Int.reduceToNat, Int.reduceLE, Int.reduceLT, Int.reduceNeg, Nat.reduceMod, sid_ne1, sid_ne2, sid_inj, sid_mod, gT, TK.isInt, TK.agg, Array.toList, h0a, h3a, h4a, hcv, hor, hw, hand]
    exact again_of ((t - 1) &&& u) (by refine ⟨?_, ?_, ?_, ⟨by omega, by rw [Nat.and_comm, Nat.and_assoc, Nat.and_self]⟩⟩ <;> (first | (simp (maxSteps := 5000000) -dsimp only [gr, Nat.reduceEqDiff, Nat.reduceLT, Nat.reduceAdd, Nat.reduceMod, Nat.reduceBEq, sid_mod, sid_ne1, sid_ne2, sid_inj, h0a, h3a, h4a, hcv, hor, hw, hand, hnext]; first | done | rfl | (simp; done)) | assumption | rfl)) (by first | omega | (simp only; omega) | (dsimp only; omega) | (show _ < _; simp; omega))
theorem faceB_snoc {xs : List Int} {k t : Nat} (h : k < xs.length) : faceB (xs.take (k + 1)) t = (faceB (xs.take k) t || subB (xs.getD k 0).toNat t) := by
  rw [take_snoc 0 h]
  unfold faceB subB
  rw [List.any_append]
  simp
theorem c_impl_facesIn (n : Int) (xs : List Int) (hx : okS xs) : AC Tryd.prog 40 [.ag [int n, ints xs]] (.im (u64 (maskF (faceB xs) 64 : Nat))) := by
  refine AC.go (rs := [.tmp 2]) T_ok mixed Tryd.func40 rfl rfl rfl (by kernel_rfl) fun hl => ?_
  simp only [lens_cons, lens_nil, and_true, lens2_ag2, lens1_v, lens1_iL, lens2_v, true_and] at hl
  simp (maxSteps := 5000000) -dsimp only [↓gp, gq, reduceCtorEq, Nat.reduceEqDiff, Nat.reduceLT, Nat.reduceLeDiff, Nat.reduceAdd, Nat.reduceMul, Nat.reduceSub, Nat.reduceBEq, Int.reduceToNat, Int.reduceLE, Int.reduceLT, Int.reduceNeg, Nat.reduceMod, sid_ne1, sid_ne2, sid_inj, sid_mod, gT, TK.isInt, TK.agg, Array.toList]
  have hinit : maskF (faceB (xs.take 0)) 64 = 0 := mask_none
  refine loop_of (fun (k : Nat) s => s.sl 3 = u64 (maskF (faceB (xs.take k)) 64 : Nat) ∧ s.sl 7 = ints xs ∧ s.sl 8 = int xs.length ∧ s.sl 9 = int k ∧ (k ≤ xs.length)) (fun k => xs.length - k) (0) (by refine ⟨?_, ?_, ?_, ?_, by omega⟩ <;> (first | (simp (maxSteps := 5000000) -dsimp only [gr, Nat.reduceEqDiff, Nat.reduceLT, Nat.reduceAdd, Nat.reduceMod, Nat.reduceBEq, sid_mod, sid_ne1, sid_ne2, sid_inj, hinit]; first | done | rfl | (simp; done)) | assumption | rfl)) ?_
  intro k sa ⟨h3a, h7a, h8a, h9a, hIa⟩
  simp (maxSteps := 5000000) -dsimp only [↓gp, gq, reduceCtorEq, Nat.reduceEqDiff, Nat.reduceLT, Nat.reduceLeDiff, Nat.reduceAdd, Nat.reduceMul, Nat.reduceSub, Nat.reduceBEq, Int.reduceToNat, Int.reduceLE, Int.reduceLT, Int.reduceNeg, Nat.reduceMod, sid_ne1, sid_ne2, sid_inj, sid_mod, gT, TK.isInt, TK.agg, Array.toList, h3a, h7a, h8a, h9a]
  refine ⟨fun h => ⟨h, h, ?_⟩, fun h => ?_⟩
  · have h6 := okS_at hx h
    have hn : xs.getD k 0 = ((xs.getD k 0).toNat : Int) := by omega
    have hc := c_impl_subsetFamily (xs.getD k 0).toNat (by omega)
    rw [← hn] at hc
    refine askK_of hc ?_
    have hm1 := maskF_lt (faceB (xs.take k)) 64
    have hm2 := maskF_lt (subB (xs.getD k 0).toNat) 64
    have hor : ior .u64 (maskF (faceB (xs.take k)) 64 : Nat) (maskF (subB (xs.getD k 0).toNat) 64 : Nat) = ((maskF (faceB (xs.take (k + 1))) 64 : Nat) : Int) := by
      rw [ior_u (by omega) (by omega), mask_or]
      congr 1
      exact mask_congr fun t _ => (faceB_snoc h).symm
    simp (maxSteps := 5000000) -dsimp only [↓gp, gq, reduceCtorEq, Nat.reduceEqDiff, Nat.reduceLT, Nat.reduceLeDiff, Nat.reduceAdd, Nat.reduceMul, Nat.reduceSub, Nat.reduceBEq, Int.reduceToNat, Int.reduceLE, Int.reduceLT, Int.reduceNeg, Nat.reduceMod, sid_ne1, sid_ne2, sid_inj, sid_mod, gT, TK.isInt, TK.agg, Array.toList, h3a, h7a, h8a, h9a, hor]
    exact again_of (k + 1) (by refine ⟨?_, ?_, ?_, ?_, by omega⟩ <;> (first | (simp (maxSteps := 5000000) -dsimp only [gr, Nat.reduceEqDiff, Nat.reduceLT, Nat.reduceAdd, Nat.reduceMod, Nat.reduceBEq, sid_mod, sid_ne1, sid_ne2, sid_inj, h3a, h7a, h8a, h9a, wrap_nat h hl, hor]; first | done | rfl | (simp; done)) | assumption | rfl)) (by first | omega | (simp only; omega) | (dsimp only; omega) | (show _ < _; simp; omega))
  · have : k = xs.length := by omega
    rw [this, List.take_length]
theorem c_impl_inducedIn (f : Nat → Bool) (w : Nat) (hw : w < 64) : AC Tryd.prog 54 [u64 (maskF f 64 : Nat), int w] (.im (u64 (maskF (fun t => f t && subB w t) 64 : Nat))) := by
  refine AC.go (rs := [.tmp 4]) T_ok mixed Tryd.func54 rfl rfl rfl (by kernel_rfl) fun hl => ?_
  simp (maxSteps := 5000000) -dsimp only [↓gp, gq, reduceCtorEq, Nat.reduceEqDiff, Nat.reduceLT, Nat.reduceLeDiff, Nat.reduceAdd, Nat.reduceMul, Nat.reduceSub, Nat.reduceBEq, Int.reduceToNat, Int.reduceLE, Int.reduceLT, Int.reduceNeg, Nat.reduceMod, sid_ne1, sid_ne2, sid_inj, sid_mod, gT, TK.isInt, TK.agg, Array.toList]
  refine askK_of (c_impl_subsetFamily w hw) ?_
  have hm1 := maskF_lt f 64
  have hm2 := maskF_lt (subB w) 64
  have hand : iand .u64 (maskF f 64 : Nat) (maskF (subB w) 64 : Nat) = ((maskF (fun t => f t && subB w t) 64 : Nat) : Int) := by
    rw [iand_u (by omega) (by omega), mask_and]
  simp (maxSteps := 5000000) -dsimp only [↓gp, gq, reduceCtorEq, Nat.reduceEqDiff, Nat.reduceLT, Nat.reduceLeDiff, Nat.reduceAdd, Nat.reduceMul, Nat.reduceSub, Nat.reduceBEq, Int.reduceToNat, Int.reduceLE, Int.reduceLT, Int.reduceNeg, Nat.reduceMod, sid_ne1, sid_ne2, sid_inj, sid_mod, gT, TK.isInt, TK.agg, Array.toList, hand]
end Go.Proofs.YtmpjajhklilleaaDoor

namespace Go.Proofs.YtmpjajhklilleaaDoor
open Go.Abs
set_option linter.unusedSimpArgs false
set_option linter.unusedVariables false

theorem szOf_nat {t : Nat} (h : t < 64) : szOf (t : Int) = (popN t : Nat) := by rw [szOf, if_pos (by omega)]; simp
theorem topP_succ (f : Nat → Bool) (m : Nat) : topP f (m + 1) = if f m = true then max (topP f m) (popN m + 1) else topP f m := rfl
theorem c_impl_topSize (f : Nat → Bool) : AC Tryd.prog 91 [u64 (maskF f 64 : Nat)] (.im (int ((dimN f : Int) - 1))) := by
  refine AC.go (rs := [.tmp 2]) T_ok mixed Tryd.func91 rfl rfl rfl (by kernel_rfl) fun hl => ?_
  simp (maxSteps := 5000000) -dsimp only [↓gp, gq, reduceCtorEq, Nat.reduceEqDiff, Nat.reduceLT, Nat.reduceLeDiff, Nat.reduceAdd, Nat.reduceMul, Nat.reduceSub, Nat.reduceBEq, Int.reduceToNat, Int.reduceLE, Int.reduceLT, Int.reduceNeg, Nat.reduceMod, sid_ne1, sid_ne2, sid_inj, sid_mod, gT, TK.isInt, TK.agg, Array.toList]
  have hm1 := maskF_lt f 64
  refine loop_of (fun (m : Nat) s => s.sl 0 = u64 (maskF f 64 : Nat) ∧ s.sl 3 = int ((topP f m : Int) - 1) ∧ s.sl 4 = int m ∧ (m ≤ 64)) (fun m => 64 - m) (0) (by refine ⟨?_, ?_, ?_, by omega⟩ <;> (first | (simp (maxSteps := 5000000) -dsimp only [gr, Nat.reduceEqDiff, Nat.reduceLT, Nat.reduceAdd, Nat.reduceMod, Nat.reduceBEq, sid_mod, sid_ne1, sid_ne2, sid_inj, topP]; first | done | rfl | (simp; done)) | assumption | rfl)) ?_
  intro m sa ⟨h0a, h3a, h4a, hIa⟩
  simp (maxSteps := 5000000) -dsimp only [↓gp, gq, reduceCtorEq, Nat.reduceEqDiff, Nat.reduceLT, Nat.reduceLeDiff, Nat.reduceAdd, Nat.reduceMul, Nat.reduceSub, Nat.reduceBEq, Int.reduceToNat, Int.reduceLE, Int.reduceLT, Int.reduceNeg, Nat.reduceMod, sid_ne1, sid_ne2, sid_inj, sid_mod, gT, TK.isInt, TK.agg, Array.toList, h0a, h3a, h4a]
  refine ⟨fun h => askK_of (c_impl_hasSet (maskF f 64) m (by omega) (by omega)) ?_, fun h => ?_⟩
  · have h : m < 64 := by omega
    rw [mask_bit64 f h]
    simp (maxSteps := 5000000) -dsimp only [↓gp, gq, reduceCtorEq, Nat.reduceEqDiff, Nat.reduceLT, Nat.reduceLeDiff, Nat.reduceAdd, Nat.reduceMul, Nat.reduceSub, Nat.reduceBEq, Int.reduceToNat, Int.reduceLE, Int.reduceLT, Int.reduceNeg, Nat.reduceMod, sid_ne1, sid_ne2, sid_inj, sid_mod, gT, TK.isInt, TK.agg, Array.toList, h0a, h3a, h4a]
    refine ⟨fun hf => askK_of (c_impl_SizeOf _) ?_, fun hf => ?_⟩
    · simp (maxSteps := 5000000) -dsimp only [↓gp, gq, reduceCtorEq, Nat.reduceEqDiff, Nat.reduceLT, Nat.reduceLeDiff, Nat.reduceAdd, Nat.reduceMul, Nat.reduceSub, Nat.reduceBEq, Int.reduceToNat, Int.reduceLE, Int.reduceLT, Int.reduceNeg, Nat.reduceMod, sid_ne1, sid_ne2, sid_inj, sid_mod, gT, TK.isInt, TK.agg, Array.toList, h0a, h3a, h4a, szOf_nat h]
      refine ⟨fun hg => askK_of (c_impl_SizeOf _) ?_, fun hg => ?_⟩
      · simp (maxSteps := 5000000) -dsimp only [↓gp, gq, reduceCtorEq, Nat.reduceEqDiff, Nat.reduceLT, Nat.reduceLeDiff, Nat.reduceAdd, Nat.reduceMul, Nat.reduceSub, Nat.reduceBEq, Int.reduceToNat, Int.reduceLE, Int.reduceLT, Int.reduceNeg, Nat.reduceMod, sid_ne1, sid_ne2, sid_inj, sid_mod, gT, TK.isInt, TK.agg, Array.toList, h0a, h3a, h4a, szOf_nat h]
        have e : (topP f (m + 1) : Int) - 1 = (popN m : Int) := by rw [topP_succ, if_pos hf]; omega
        exact again_of (m + 1) (by refine ⟨?_, ?_, ?_, by omega⟩ <;> (first | (simp (maxSteps := 5000000) -dsimp only [gr, Nat.reduceEqDiff, Nat.reduceLT, Nat.reduceAdd, Nat.reduceMod, Nat.reduceBEq, sid_mod, sid_ne1, sid_ne2, sid_inj, h0a, h3a, h4a, wrap_nat h (by omega), szOf_nat h, e]; first | done | rfl | (simp; done)) | assumption | rfl)) (by first | omega | (simp only; omega) | (dsimp only; omega) | (show _ < _; simp; omega))
      · have e : topP f (m + 1) = topP f m := by rw [topP_succ, if_pos hf]; omega
        exact again_of (m + 1) (by refine ⟨?_, ?_, ?_, by omega⟩ <;> (first | (simp (maxSteps := 5000000) -dsimp only [gr, Nat.reduceEqDiff, Nat.reduceLT, Nat.reduceAdd, Nat.reduceMod, Nat.reduceBEq, sid_mod, sid_ne1, sid_ne2, sid_inj, h0a, h3a, h4a, wrap_nat h (by omega), e]; first | done | rfl | (simp; done)) | assumption | rfl)) (by first | omega | (simp only; omega) | (dsimp only; omega) | (show _ < _; simp; omega))
    · have e : topP f (m + 1) = topP f m := by rw [topP_succ, if_neg (by rw [hf]; decide)]
      exact again_of (m + 1) (by refine ⟨?_, ?_, ?_, by omega⟩ <;> (first | (simp (maxSteps := 5000000) -dsimp only [gr, Nat.reduceEqDiff, Nat.reduceLT, Nat.reduceAdd, Nat.reduceMod, Nat.reduceBEq, sid_mod, sid_ne1, sid_ne2, sid_inj, h0a, h3a, h4a, wrap_nat h (by omega), e]; first | done | rfl | (simp; done)) | assumption | rfl)) (by first | omega | (simp only; omega) | (dsimp only; omega) | (show _ < _; simp; omega))
  · have : m = 64 := by omega
    subst this; rfl
theorem ordS_step {f : Nat → Bool} {m j : Nat} (hf : f m = true) : ordS f j (m + 1) = if j = popN m then ordS f j m ++ [m] else ordS f j m := by
  rw [ordS_succ, hf]
  by_cases e : j = popN m
  · subst e; simp
  · have : ¬ popN m = j := fun h => e h.symm
    simp [e, this]
theorem ordS_stay {f : Nat → Bool} {m j : Nat} (hf : f m = false) : ordS f j (m + 1) = ordS f j m := by rw [ordS_succ, hf]; simp
def sizesL (f : Nat → Bool) : Mat := (List.range (dimN f)).map fun k => ofN (ordS f k 64)
theorem sizesL_length (f : Nat → Bool) : (sizesL f).length = dimN f := by simp [sizesL]
theorem sizesL_getD (f : Nat → Bool) {k : Nat} (h : k < dimN f) : (sizesL f).getD k [] = ofN (ordS f k 64) := by simp [sizesL, List.getD, h]
theorem c_impl_bySize0 (f : Nat → Bool) : AC Tryd.prog 75 [u64 (maskF f 64 : Nat)] (.tb 22 3 ((List.range (dimN f)).map fun j => iL (ofN (ordS f j 64)))) := by
  refine AC.go (rs := [.tmp 2]) T_ok mixed Tryd.func75 rfl rfl rfl (by kernel_rfl) fun hl => ?_
  have hm1 := maskF_lt f 64
  have hd := dimN_le f
  simp (maxSteps := 5000000) -dsimp only [↓gp, gq, reduceCtorEq, Nat.reduceEqDiff, Nat.reduceLT, Nat.reduceLeDiff, Nat.reduceAdd, Nat.reduceMul, Nat.reduceSub, Nat.reduceBEq, Int.reduceToNat, Int.reduceLE, Int.reduceLT, Int.reduceNeg, Nat.reduceMod, sid_ne1, sid_ne2, sid_inj, sid_mod, gT, TK.isInt, TK.agg, Array.toList]
  refine askK_of (c_impl_topSize f) ?_
  have hw : IntKind.i64.wrap ((dimN f : Int) - 1 + 1) = (dimN f : Int) := by rw [wrap_id (by omega) (by omega)]; omega
  simp (maxSteps := 5000000) -dsimp only [↓gp, gq, reduceCtorEq, Nat.reduceEqDiff, Nat.reduceLT, Nat.reduceLeDiff, Nat.reduceAdd, Nat.reduceMul, Nat.reduceSub, Nat.reduceBEq, Int.reduceToNat, Int.reduceLE, Int.reduceLT, Int.reduceNeg, Nat.reduceMod, sid_ne1, sid_ne2, sid_inj, sid_mod, gT, TK.isInt, TK.agg, Array.toList, hw]
  refine ⟨by omega, by omega, ?_⟩
  refine loop_nils (k := 9) (v := 1) (e := 22) (e2 := 3) (n := dimN f) (by simp (maxSteps := 5000000) -dsimp only [gr, Nat.reduceEqDiff, Nat.reduceLT, Nat.reduceAdd, Nat.reduceMod, Nat.reduceBEq, sid_mod, sid_ne1, sid_ne2, sid_inj, hw]) (fun j => by simp (maxSteps := 5000000) -dsimp only [gr, Nat.reduceEqDiff, Nat.reduceLT, Nat.reduceAdd, Nat.reduceMod, Nat.reduceBEq, sid_mod, sid_ne1, sid_ne2, sid_inj]) (fun (m : Nat) s => s.sl 0 = u64 (maskF f 64 : Nat) ∧ s.sl 3 = .own 9 1 ∧ s.sl 4 = int m ∧ (m ≤ 64 ∧ TabF s.rw 9 1 22 3 (dimN f) (fun j => 1 + (ordS f j m).length) (fun j => ofN (ordS f j m)))) (fun m => 64 - m) (0) (fun sX htX hslX hoX => (by refine ⟨?_, ?_, ?_, ⟨by omega, htX⟩⟩ <;> (first | (simp (maxSteps := 5000000) -dsimp only [gr, Nat.reduceEqDiff, Nat.reduceLT, Nat.reduceAdd, Nat.reduceMod, Nat.reduceBEq, sid_mod, sid_ne1, sid_ne2, sid_inj, hslX, hoX]; first | done | rfl | (simp; done)) | assumption | rfl))) ?_
  intro m sa ⟨h0a, h3a, h4a, hIa⟩
  obtain ⟨hm, ht⟩ := hIa
  simp (maxSteps := 5000000) -dsimp only [↓gp, gq, reduceCtorEq, Nat.reduceEqDiff, Nat.reduceLT, Nat.reduceLeDiff, Nat.reduceAdd, Nat.reduceMul, Nat.reduceSub, Nat.reduceBEq, Int.reduceToNat, Int.reduceLE, Int.reduceLT, Int.reduceNeg, Nat.reduceMod, sid_ne1, sid_ne2, sid_inj, sid_mod, gT, TK.isInt, TK.agg, Array.toList, h0a, h3a, h4a]
  refine ⟨fun h => askK_of (c_impl_hasSet (maskF f 64) m (by omega) (by omega)) ?_, fun h => ?_⟩
  · have h : m < 64 := by omega
    rw [mask_bit64 f h]
    simp (maxSteps := 5000000) -dsimp only [↓gp, gq, reduceCtorEq, Nat.reduceEqDiff, Nat.reduceLT, Nat.reduceLeDiff, Nat.reduceAdd, Nat.reduceMul, Nat.reduceSub, Nat.reduceBEq, Int.reduceToNat, Int.reduceLE, Int.reduceLT, Int.reduceNeg, Nat.reduceMod, sid_ne1, sid_ne2, sid_inj, sid_mod, gT, TK.isInt, TK.agg, Array.toList, h0a, h3a, h4a]
    refine ⟨fun hf => askK_of (c_impl_SizeOf _) ?_, fun hf => ?_⟩
    · have hk : popN m < dimN f := topP_ge 64 m h hf
      have hr := ht.row (popN m) hk
      have hol := ordS_len f (popN m) hm
      simp (maxSteps := 5000000) -dsimp only [↓gp, gq, reduceCtorEq, Nat.reduceEqDiff, Nat.reduceLT, Nat.reduceLeDiff, Nat.reduceAdd, Nat.reduceMul, Nat.reduceSub, Nat.reduceBEq, Int.reduceToNat, Int.reduceLE, Int.reduceLT, Int.reduceNeg, Nat.reduceMod, sid_ne1, sid_ne2, sid_inj, sid_mod, gT, TK.isInt, TK.agg, Array.toList, h0a, h3a, h4a, szOf_nat h, ht.top, cellsF_length, ld_cellsF, hr, ofN_length]
      refine ⟨hk, hk, by omega, hk, by omega, again_of (m + 1) ⟨(by (first | (simp (maxSteps := 5000000) -dsimp only [gr, Nat.reduceEqDiff, Nat.reduceLT, Nat.reduceAdd, Nat.reduceMod, Nat.reduceBEq, sid_mod, sid_ne1, sid_ne2, sid_inj, h0a, h3a, h4a, wrap_nat h (by omega)]; first | done | rfl | (simp; done)) | assumption | rfl)), (by (first | (simp (maxSteps := 5000000) -dsimp only [gr, Nat.reduceEqDiff, Nat.reduceLT, Nat.reduceAdd, Nat.reduceMod, Nat.reduceBEq, sid_mod, sid_ne1, sid_ne2, sid_inj, h0a, h3a, h4a, wrap_nat h (by omega)]; first | done | rfl | (simp; done)) | assumption | rfl)), (by (first | (simp (maxSteps := 5000000) -dsimp only [gr, Nat.reduceEqDiff, Nat.reduceLT, Nat.reduceAdd, Nat.reduceMod, Nat.reduceBEq, sid_mod, sid_ne1, sid_ne2, sid_inj, h0a, h3a, h4a, wrap_nat h (by omega)]; first | done | rfl | (simp; done)) | assumption | rfl)), ⟨by omega, ht.add hk (r := ofN (ordS f (popN m) m) ++ [(m : Int)]) (by simp (maxSteps := 5000000) -dsimp only [gr, Nat.reduceEqDiff, Nat.reduceLT, Nat.reduceAdd, Nat.reduceMod, Nat.reduceBEq, sid_mod, sid_ne1, sid_ne2, sid_inj, h0a, h3a, h4a]) (by simp (maxSteps := 5000000) -dsimp only [gr, Nat.reduceEqDiff, Nat.reduceLT, Nat.reduceAdd, Nat.reduceMod, Nat.reduceBEq, sid_mod, sid_ne1, sid_ne2, sid_inj, h0a, h3a, h4a]) (fun x hx => by simp (maxSteps := 5000000) -dsimp only [gr, Nat.reduceEqDiff, Nat.reduceLT, Nat.reduceAdd, Nat.reduceMod, Nat.reduceBEq, sid_mod, sid_ne1, sid_ne2, sid_inj, h0a, h3a, h4a, hx]) (fun j _ => ?_) (fun j _ => ?_)⟩⟩ (by first | omega | (simp only; omega) | (dsimp only; omega) | (show _ < _; simp; omega))⟩
      · rw [ordS_step hf]
        split
        · rename_i e; subst e; simp; omega
        · rfl
      · rw [ordS_step hf]
        split
        · rename_i e; subst e; rw [ofN_append]; rfl
        · rfl
    · have e : ∀ j, ordS f j (m + 1) = ordS f j m := fun j => ordS_stay hf
      refine again_of (m + 1) ⟨(by (first | (simp (maxSteps := 5000000) -dsimp only [gr, Nat.reduceEqDiff, Nat.reduceLT, Nat.reduceAdd, Nat.reduceMod, Nat.reduceBEq, sid_mod, sid_ne1, sid_ne2, sid_inj, h0a, h3a, h4a, wrap_nat h (by omega)]; first | done | rfl | (simp; done)) | assumption | rfl)), (by (first | (simp (maxSteps := 5000000) -dsimp only [gr, Nat.reduceEqDiff, Nat.reduceLT, Nat.reduceAdd, Nat.reduceMod, Nat.reduceBEq, sid_mod, sid_ne1, sid_ne2, sid_inj, h0a, h3a, h4a, wrap_nat h (by omega)]; first | done | rfl | (simp; done)) | assumption | rfl)), (by (first | (simp (maxSteps := 5000000) -dsimp only [gr, Nat.reduceEqDiff, Nat.reduceLT, Nat.reduceAdd, Nat.reduceMod, Nat.reduceBEq, sid_mod, sid_ne1, sid_ne2, sid_inj, h0a, h3a, h4a, wrap_nat h (by omega)]; first | done | rfl | (simp; done)) | assumption | rfl)), ⟨by omega, ?_⟩⟩ (by first | omega | (simp only; omega) | (dsimp only; omega) | (show _ < _; simp; omega))
      simp only [e]
      exact ht.same (by simp (maxSteps := 5000000) -dsimp only [gr, Nat.reduceEqDiff, Nat.reduceLT, Nat.reduceAdd, Nat.reduceMod, Nat.reduceBEq, sid_mod, sid_ne1, sid_ne2, sid_inj]) (fun x => by simp (maxSteps := 5000000) -dsimp only [gr, Nat.reduceEqDiff, Nat.reduceLT, Nat.reduceAdd, Nat.reduceMod, Nat.reduceBEq, sid_mod, sid_ne1, sid_ne2, sid_inj])
  · have : m = 64 := by omega
    subst this
    exact out2_tabF ht (by decide) (by omega)
theorem c_impl_bySize (f : Nat → Bool) : AC Tryd.prog 75 [u64 (maskF f 64 : Nat)] (.fr 22 1 (iLL (sizesL f))) := by
  have := (c_impl_bySize0 f).flat
  unfold sizesL iLL
  rw [List.map_map] at this ⊢
  exact this
theorem c_impl_borderSign (a b : Nat) (ha : a < 64) (hb : b < 64) (hp : popN b = popN a + 1) : AC Tryd.prog 94 [int a, int b] (.im (int (sgnN a b))) := by
  refine AC.go (rs := [.tmp 4]) T_ok mixed Tryd.func94 rfl rfl rfl (by kernel_rfl) fun hl => ?_
  have hpa := pop_le6 ha
  have hand := iandnot_nat (a := a) (b := b) (by omega) (by omega)
  simp (maxSteps := 5000000) -dsimp only [↓gp, gq, reduceCtorEq, Nat.reduceEqDiff, Nat.reduceLT, Nat.reduceLeDiff, Nat.reduceAdd, Nat.reduceMul, Nat.reduceSub, Nat.reduceBEq, Int.reduceToNat, Int.reduceLE, Int.reduceLT, Int.reduceNeg, Nat.reduceMod, sid_ne1, sid_ne2, sid_inj, sid_mod, gT, TK.isInt, TK.agg, Array.toList, hand]
  refine ⟨fun h => ?_, fun h => ?_⟩
  · have hs : ¬ a &&& b = a := by
      intro e
      rw [xor_and_zero.2 e] at h
      simp at h
    unfold sgnN; rw [if_neg hs]
  · have hs : a &&& b = a := xor_and_zero.1 (by
      have h9 : ((a ^^^ (a &&& b) : Nat) : Int) = 0 := by simpa using h
      omega)
    obtain ⟨hle, hx⟩ := sgn_diff a ha b hb hs
    have hne : a ≠ b := fun e => by rw [e] at hp; omega
    have hand2 := iandnot_nat (a := b) (b := a) (by omega) (by omega)
    rw [Nat.and_comm b a, hx] at hand2
    have hw3 : IntKind.i64.wrap (((b - a : Nat) : Int) - 1) = ((b - a - 1 : Nat) : Int) := by rw [wrap_id (by omega) (by omega)]; omega
    have hand3 := iand_nat (a := b) (b := b - a - 1) (by omega) (by omega)
    have hlt : b &&& (b - a - 1) < 64 := by have : b &&& (b - a - 1) ≤ b := Nat.and_le_left; omega
    have hp6 := pop_le6 hlt
    have hmod : ((popN (b &&& (b - a - 1)) : Nat) : Int).tmod 2 = ((popN (b &&& (b - a - 1)) % 2 : Nat) : Int) := by rw [tmod_nn (by omega)]; omega
    simp (maxSteps := 5000000) -dsimp only [↓gp, gq, reduceCtorEq, Nat.reduceEqDiff, Nat.reduceLT, Nat.reduceLeDiff, Nat.reduceAdd, Nat.reduceMul, Nat.reduceSub, Nat.reduceBEq, Int.reduceToNat, Int.reduceLE, Int.reduceLT, Int.reduceNeg, Nat.reduceMod, sid_ne1, sid_ne2, sid_inj, sid_mod, gT, TK.isInt, TK.agg, Array.toList, hand2, hw3, hand3]
    refine askK_of (c_impl_SizeOf _) ?_
    simp (maxSteps := 5000000) -dsimp only [↓gp, gq, reduceCtorEq, Nat.reduceEqDiff, Nat.reduceLT, Nat.reduceLeDiff, Nat.reduceAdd, Nat.reduceMul, Nat.reduceSub, Nat.reduceBEq, Int.reduceToNat, Int.reduceLE, Int.reduceLT, Int.reduceNeg, Nat.reduceMod, sid_ne1, sid_ne2, sid_inj, sid_mod, gT, TK.isInt, TK.agg, Array.toList, szOf_nat hlt, hmod]
    unfold sgnN
    rw [if_pos hs]
    refine ⟨by decide, fun h0 => ?_, fun h0 => ?_⟩
    · rw [if_pos (by have h9 : ((popN (b &&& (b - a - 1)) % 2 : Nat) : Int) = 0 := by simpa using h0
                     omega)]
    · rw [if_neg (by intro e; rw [e] at h0; simp at h0)]
theorem sgn_row {lo hi : List Nat} {i j : Nat} (hi' : i < lo.length) (hj : j < hi.length) : (hi.map fun b => sgnN (lo.getD i 0) b).getD j 0 = sgnN (lo.getD i 0) (hi.getD j 0) := by
  simp [List.getD, hj]
theorem c_impl_borderOf (lo hi : List Nat) (k : Nat) (hl1 : lo.length ≤ 64) (hl2 : hi.length ≤ 64) (hm1 : ∀ i, i < lo.length → lo.getD i 0 < 64 ∧ popN (lo.getD i 0) = k) (hm2 : ∀ i, i < hi.length → hi.getD i 0 < 64 ∧ popN (hi.getD i 0) = k + 1) :
    AC Tryd.prog 77 [ints (ofN lo), ints (ofN hi)] (.tb 22 3 ((bordM lo hi).map iL)) := by
  refine AC.go (rs := [.tmp 4]) T_ok mixed Tryd.func77 rfl rfl rfl (by kernel_rfl) fun hl => ?_
  simp (maxSteps := 5000000) -dsimp only [↓gp, gq, reduceCtorEq, Nat.reduceEqDiff, Nat.reduceLT, Nat.reduceLeDiff, Nat.reduceAdd, Nat.reduceMul, Nat.reduceSub, Nat.reduceBEq, Int.reduceToNat, Int.reduceLE, Int.reduceLT, Int.reduceNeg, Nat.reduceMod, sid_ne1, sid_ne2, sid_inj, sid_mod, gT, TK.isInt, TK.agg, Array.toList, ofN_length]
  refine ⟨by omega, by omega, ?_⟩
  refine loop_ini (k := 12) (v := 1) (e := 22) (e2 := 3) (n := lo.length) (by simp (maxSteps := 5000000) -dsimp only [gr, Nat.reduceEqDiff, Nat.reduceLT, Nat.reduceAdd, Nat.reduceMod, Nat.reduceBEq, sid_mod, sid_ne1, sid_ne2, sid_inj, ofN_length]) (fun j => by simp (maxSteps := 5000000) -dsimp only [gr, Nat.reduceEqDiff, Nat.reduceLT, Nat.reduceAdd, Nat.reduceMod, Nat.reduceBEq, sid_mod, sid_ne1, sid_ne2, sid_inj]) (fun (i : Nat) s => s.sl 1 = ints (ofN hi) ∧ s.sl 5 = .own 12 1 ∧ s.sl 13 = ints (ofN lo) ∧ s.sl 14 = int lo.length ∧ s.sl 15 = int i ∧ (i ≤ lo.length ∧ TabP s.rw 12 1 22 3 lo.length i (bordM (lo.take i) hi))) (fun i => lo.length - i) (0) (fun sX htX hslX hoX => (by refine ⟨?_, ?_, ?_, ?_, ?_, ⟨by omega, htX⟩⟩ <;> (first | (simp (maxSteps := 5000000) -dsimp only [gr, Nat.reduceEqDiff, Nat.reduceLT, Nat.reduceAdd, Nat.reduceMod, Nat.reduceBEq, sid_mod, sid_ne1, sid_ne2, sid_inj, hslX, hoX, ofN_length]; first | done | rfl | (simp; done)) | assumption | rfl))) ?_
  intro i sa ⟨h1a, h5a, h13a, h14a, h15a, hIa⟩
  obtain ⟨hi', ht⟩ := hIa
  simp (maxSteps := 5000000) -dsimp only [↓gp, gq, reduceCtorEq, Nat.reduceEqDiff, Nat.reduceLT, Nat.reduceLeDiff, Nat.reduceAdd, Nat.reduceMul, Nat.reduceSub, Nat.reduceBEq, Int.reduceToNat, Int.reduceLE, Int.reduceLT, Int.reduceNeg, Nat.reduceMod, sid_ne1, sid_ne2, sid_inj, sid_mod, gT, TK.isInt, TK.agg, Array.toList, h1a, h5a, h13a, h14a, h15a, ht.top, tabC_length, ofN_length]
  refine ⟨fun h => ?_, fun h => ?_⟩
  · have hge : (ofN lo).getD i 0 = ((lo.getD i 0 : Nat) : Int) := ofN_getD h
    have hlen : (bordM (lo.take i) hi).length = i := by rw [bordM_length, List.length_take]; omega
    refine ⟨h, h, by omega, by omega, h, by omega, ?_⟩
    refine loop_push (k := 12) (v := 1) (e := 22) (e2 := 3) (n := lo.length) (i := i) (d := 24) (vd := (sa.rw 24).ver + 1) (M := bordM (lo.take i) hi) (r := List.replicate hi.length 0) (by simp (maxSteps := 5000000) -dsimp only [gr, Nat.reduceEqDiff, Nat.reduceLT, Nat.reduceAdd, Nat.reduceMod, Nat.reduceBEq, sid_mod, sid_ne1, sid_ne2, sid_inj, ht.top]) hlen (fun j hj => by simp (maxSteps := 5000000) -dsimp only [gr, Nat.reduceEqDiff, Nat.reduceLT, Nat.reduceAdd, Nat.reduceMod, Nat.reduceBEq, sid_mod, sid_ne1, sid_ne2, sid_inj, ht.row j hj]) (fun j hj => by simp (maxSteps := 5000000) -dsimp only [gr, Nat.reduceEqDiff, Nat.reduceLT, Nat.reduceAdd, Nat.reduceMod, Nat.reduceBEq, sid_mod, sid_ne1, sid_ne2, sid_inj, ht.rest j hj]) (by simp (maxSteps := 5000000) -dsimp only [gr, Nat.reduceEqDiff, Nat.reduceLT, Nat.reduceAdd, Nat.reduceMod, Nat.reduceBEq, sid_mod, sid_ne1, sid_ne2, sid_inj]) (by decide) (by decide) h (fun (j : Nat) s => s.sl 1 = ints (ofN hi) ∧ s.sl 5 = .own 12 1 ∧ s.sl 13 = ints (ofN lo) ∧ s.sl 14 = int lo.length ∧ s.sl 15 = int i ∧ s.sl 6 = int i ∧ s.sl 7 = int (lo.getD i 0 : Nat) ∧ s.sl 26 = ints (ofN hi) ∧ s.sl 27 = int hi.length ∧ s.sl 28 = int j ∧ (j ≤ hi.length ∧ TabP s.rw 12 1 22 3 lo.length (i + 1) (bordM (lo.take i) hi ++ [prt (hi.map fun b => sgnN (lo.getD i 0) b) (List.replicate hi.length 0) j]))) (fun j => hi.length - j) (0) (fun sX htX hslX hoX => (by refine ⟨?_, ?_, ?_, ?_, ?_, ?_, ?_, ?_, ?_, ?_, ⟨by omega, by rw [prt_zero]; exact htX⟩⟩ <;> (first | (simp (maxSteps := 5000000) -dsimp only [gr, Nat.reduceEqDiff, Nat.reduceLT, Nat.reduceAdd, Nat.reduceMod, Nat.reduceBEq, sid_mod, sid_ne1, sid_ne2, sid_inj, hslX, hoX, h1a, h5a, h13a, h14a, h15a, ofN_length, hge]; first | done | rfl | (simp; done)) | assumption | rfl))) ?_
    intro j sb ⟨h1b, h5b, h13b, h14b, h15b, h6b, h7b, h26b, h27b, h28b, hIb⟩
    obtain ⟨hj, ht2⟩ := hIb
    have hnl : (hi.map fun b => sgnN (lo.getD i 0) b).length = (List.replicate hi.length (0 : Int)).length := by simp
    have hrr := ht2.row i (by omega)
    rw [snoc_last hlen] at hrr
    have hpl : ∀ t, (prt (hi.map fun b => sgnN (lo.getD i 0) b) (List.replicate hi.length 0) t).length = hi.length := fun t => by rw [prt_length hnl]; simp
    simp (maxSteps := 5000000) -dsimp only [↓gp, gq, reduceCtorEq, Nat.reduceEqDiff, Nat.reduceLT, Nat.reduceLeDiff, Nat.reduceAdd, Nat.reduceMul, Nat.reduceSub, Nat.reduceBEq, Int.reduceToNat, Int.reduceLE, Int.reduceLT, Int.reduceNeg, Nat.reduceMod, sid_ne1, sid_ne2, sid_inj, sid_mod, gT, TK.isInt, TK.agg, Array.toList, h1b, h5b, h13b, h14b, h15b, h6b, h7b, h26b, h27b, h28b, ht2.top, ld_tabC, hrr, hpl, tabC_length, ofN_length]
    refine ⟨fun h2 => ?_, fun h2 => ?_⟩
    · have hge2 : (ofN hi).getD j 0 = ((hi.getD j 0 : Nat) : Int) := ofN_getD h2
      have ha := hm1 i h
      have hb := hm2 j h2
      refine ⟨h2, h2, ?_⟩
      simp (maxSteps := 5000000) -dsimp only [↓gp, gq, reduceCtorEq, Nat.reduceEqDiff, Nat.reduceLT, Nat.reduceLeDiff, Nat.reduceAdd, Nat.reduceMul, Nat.reduceSub, Nat.reduceBEq, Int.reduceToNat, Int.reduceLE, Int.reduceLT, Int.reduceNeg, Nat.reduceMod, sid_ne1, sid_ne2, sid_inj, sid_mod, gT, TK.isInt, TK.agg, Array.toList, h1b, h5b, h13b, h14b, h15b, h6b, h7b, h26b, h27b, h28b, ht2.top, ld_tabC, hrr, hpl, tabC_length, hge2]
      refine ⟨by kernel_rfl, h, h, askK_of (c_impl_borderSign _ _ ha.1 hb.1 (by omega)) ?_⟩
      simp (maxSteps := 5000000) -dsimp only [↓gp, gq, reduceCtorEq, Nat.reduceEqDiff, Nat.reduceLT, Nat.reduceLeDiff, Nat.reduceAdd, Nat.reduceMul, Nat.reduceSub, Nat.reduceBEq, Int.reduceToNat, Int.reduceLE, Int.reduceLT, Int.reduceNeg, Nat.reduceMod, sid_ne1, sid_ne2, sid_inj, sid_mod, gT, TK.isInt, TK.agg, Array.toList, h1b, h5b, h13b, h14b, h15b, h6b, h7b, h26b, h27b, h28b, ht2.top, ld_tabC, hrr, hpl, tabC_length, hge2]
      refine ⟨h2, by omega, by kernel_rfl, again_of (j + 1) ⟨(by (first | (simp (maxSteps := 5000000) -dsimp only [gr, Nat.reduceEqDiff, Nat.reduceLT, Nat.reduceAdd, Nat.reduceMod, Nat.reduceBEq, sid_mod, sid_ne1, sid_ne2, sid_inj, h1b, h5b, h13b, h14b, h15b, h6b, h7b, h26b, h27b, h28b, wrap_nat h2 (by omega)]; first | done | rfl | (simp; done)) | assumption | rfl)), (by (first | (simp (maxSteps := 5000000) -dsimp only [gr, Nat.reduceEqDiff, Nat.reduceLT, Nat.reduceAdd, Nat.reduceMod, Nat.reduceBEq, sid_mod, sid_ne1, sid_ne2, sid_inj, h1b, h5b, h13b, h14b, h15b, h6b, h7b, h26b, h27b, h28b, wrap_nat h2 (by omega)]; first | done | rfl | (simp; done)) | assumption | rfl)), (by (first | (simp (maxSteps := 5000000) -dsimp only [gr, Nat.reduceEqDiff, Nat.reduceLT, Nat.reduceAdd, Nat.reduceMod, Nat.reduceBEq, sid_mod, sid_ne1, sid_ne2, sid_inj, h1b, h5b, h13b, h14b, h15b, h6b, h7b, h26b, h27b, h28b, wrap_nat h2 (by omega)]; first | done | rfl | (simp; done)) | assumption | rfl)), (by (first | (simp (maxSteps := 5000000) -dsimp only [gr, Nat.reduceEqDiff, Nat.reduceLT, Nat.reduceAdd, Nat.reduceMod, Nat.reduceBEq, sid_mod, sid_ne1, sid_ne2, sid_inj, h1b, h5b, h13b, h14b, h15b, h6b, h7b, h26b, h27b, h28b, wrap_nat h2 (by omega)]; first | done | rfl | (simp; done)) | assumption | rfl)), (by (first | (simp (maxSteps := 5000000) -dsimp only [gr, Nat.reduceEqDiff, Nat.reduceLT, Nat.reduceAdd, Nat.reduceMod, Nat.reduceBEq, sid_mod, sid_ne1, sid_ne2, sid_inj, h1b, h5b, h13b, h14b, h15b, h6b, h7b, h26b, h27b, h28b, wrap_nat h2 (by omega)]; first | done | rfl | (simp; done)) | assumption | rfl)), (by (first | (simp (maxSteps := 5000000) -dsimp only [gr, Nat.reduceEqDiff, Nat.reduceLT, Nat.reduceAdd, Nat.reduceMod, Nat.reduceBEq, sid_mod, sid_ne1, sid_ne2, sid_inj, h1b, h5b, h13b, h14b, h15b, h6b, h7b, h26b, h27b, h28b, wrap_nat h2 (by omega)]; first | done | rfl | (simp; done)) | assumption | rfl)), (by (first | (simp (maxSteps := 5000000) -dsimp only [gr, Nat.reduceEqDiff, Nat.reduceLT, Nat.reduceAdd, Nat.reduceMod, Nat.reduceBEq, sid_mod, sid_ne1, sid_ne2, sid_inj, h1b, h5b, h13b, h14b, h15b, h6b, h7b, h26b, h27b, h28b, wrap_nat h2 (by omega)]; first | done | rfl | (simp; done)) | assumption | rfl)), (by (first | (simp (maxSteps := 5000000) -dsimp only [gr, Nat.reduceEqDiff, Nat.reduceLT, Nat.reduceAdd, Nat.reduceMod, Nat.reduceBEq, sid_mod, sid_ne1, sid_ne2, sid_inj, h1b, h5b, h13b, h14b, h15b, h6b, h7b, h26b, h27b, h28b, wrap_nat h2 (by omega)]; first | done | rfl | (simp; done)) | assumption | rfl)), (by (first | (simp (maxSteps := 5000000) -dsimp only [gr, Nat.reduceEqDiff, Nat.reduceLT, Nat.reduceAdd, Nat.reduceMod, Nat.reduceBEq, sid_mod, sid_ne1, sid_ne2, sid_inj, h1b, h5b, h13b, h14b, h15b, h6b, h7b, h26b, h27b, h28b, wrap_nat h2 (by omega)]; first | done | rfl | (simp; done)) | assumption | rfl)), (by (first | (simp (maxSteps := 5000000) -dsimp only [gr, Nat.reduceEqDiff, Nat.reduceLT, Nat.reduceAdd, Nat.reduceMod, Nat.reduceBEq, sid_mod, sid_ne1, sid_ne2, sid_inj, h1b, h5b, h13b, h14b, h15b, h6b, h7b, h26b, h27b, h28b, wrap_nat h2 (by omega)]; first | done | rfl | (simp; done)) | assumption | rfl)), ⟨by omega, ?_⟩⟩ (by first | omega | (simp only; omega) | (dsimp only; omega) | (show _ < _; simp; omega))⟩
      have e : bordM (lo.take i) hi ++ [prt (hi.map fun b => sgnN (lo.getD i 0) b) (List.replicate hi.length 0) (j + 1)] = (bordM (lo.take i) hi ++ [prt (hi.map fun b => sgnN (lo.getD i 0) b) (List.replicate hi.length 0) j]).set i ((prt (hi.map fun b => sgnN (lo.getD i 0) b) (List.replicate hi.length 0) j).set j (sgnN (lo.getD i 0) (hi.getD j 0))) := by
        rw [snoc_set hlen, ← sgn_row h h2, prt_set hnl (by simpa using h2)]
      rw [e]
      exact ht2.set (by omega) (by simp (maxSteps := 5000000) -dsimp only [gr, Nat.reduceEqDiff, Nat.reduceLT, Nat.reduceAdd, Nat.reduceMod, Nat.reduceBEq, sid_mod, sid_ne1, sid_ne2, sid_inj, h1b, h5b, h13b, h14b, h15b, h6b, h7b, h26b, h27b, h28b]) (by simp (maxSteps := 5000000) -dsimp only [gr, Nat.reduceEqDiff, Nat.reduceLT, Nat.reduceAdd, Nat.reduceMod, Nat.reduceBEq, sid_mod, sid_ne1, sid_ne2, sid_inj, h1b, h5b, h13b, h14b, h15b, h6b, h7b, h26b, h27b, h28b]) (fun x hx => by simp (maxSteps := 5000000) -dsimp only [gr, Nat.reduceEqDiff, Nat.reduceLT, Nat.reduceAdd, Nat.reduceMod, Nat.reduceBEq, sid_mod, sid_ne1, sid_ne2, sid_inj, h1b, h5b, h13b, h14b, h15b, h6b, h7b, h26b, h27b, h28b, hx])
    · have : j = hi.length := by omega
      subst this
      refine again_of (i + 1) ⟨(by (first | (simp (maxSteps := 5000000) -dsimp only [gr, Nat.reduceEqDiff, Nat.reduceLT, Nat.reduceAdd, Nat.reduceMod, Nat.reduceBEq, sid_mod, sid_ne1, sid_ne2, sid_inj, h1a, h5a, h13a, h14a, h15a, h1b, h5b, h13b, h14b, h15b, h6b, h7b, h26b, h27b, h28b, wrap_nat h (by omega)]; first | done | rfl | (simp; done)) | assumption | rfl)), (by (first | (simp (maxSteps := 5000000) -dsimp only [gr, Nat.reduceEqDiff, Nat.reduceLT, Nat.reduceAdd, Nat.reduceMod, Nat.reduceBEq, sid_mod, sid_ne1, sid_ne2, sid_inj, h1a, h5a, h13a, h14a, h15a, h1b, h5b, h13b, h14b, h15b, h6b, h7b, h26b, h27b, h28b, wrap_nat h (by omega)]; first | done | rfl | (simp; done)) | assumption | rfl)), (by (first | (simp (maxSteps := 5000000) -dsimp only [gr, Nat.reduceEqDiff, Nat.reduceLT, Nat.reduceAdd, Nat.reduceMod, Nat.reduceBEq, sid_mod, sid_ne1, sid_ne2, sid_inj, h1a, h5a, h13a, h14a, h15a, h1b, h5b, h13b, h14b, h15b, h6b, h7b, h26b, h27b, h28b, wrap_nat h (by omega)]; first | done | rfl | (simp; done)) | assumption | rfl)), (by (first | (simp (maxSteps := 5000000) -dsimp only [gr, Nat.reduceEqDiff, Nat.reduceLT, Nat.reduceAdd, Nat.reduceMod, Nat.reduceBEq, sid_mod, sid_ne1, sid_ne2, sid_inj, h1a, h5a, h13a, h14a, h15a, h1b, h5b, h13b, h14b, h15b, h6b, h7b, h26b, h27b, h28b, wrap_nat h (by omega)]; first | done | rfl | (simp; done)) | assumption | rfl)), (by (first | (simp (maxSteps := 5000000) -dsimp only [gr, Nat.reduceEqDiff, Nat.reduceLT, Nat.reduceAdd, Nat.reduceMod, Nat.reduceBEq, sid_mod, sid_ne1, sid_ne2, sid_inj, h1a, h5a, h13a, h14a, h15a, h1b, h5b, h13b, h14b, h15b, h6b, h7b, h26b, h27b, h28b, wrap_nat h (by omega)]; first | done | rfl | (simp; done)) | assumption | rfl)), ⟨by omega, ?_⟩⟩ (by first | omega | (simp only; omega) | (dsimp only; omega) | (show _ < _; simp; omega))
      have e : prt (hi.map fun b => sgnN (lo.getD i 0) b) (List.replicate hi.length 0) hi.length = hi.map fun b => sgnN (lo.getD i 0) b := by
        have := prt_end hnl
        simpa using this
      have ht3 := ht2
      rw [e, bordM_snoc h] at ht3
      exact ht3.same (by simp (maxSteps := 5000000) -dsimp only [gr, Nat.reduceEqDiff, Nat.reduceLT, Nat.reduceAdd, Nat.reduceMod, Nat.reduceBEq, sid_mod, sid_ne1, sid_ne2, sid_inj]) (fun x => by simp (maxSteps := 5000000) -dsimp only [gr, Nat.reduceEqDiff, Nat.reduceLT, Nat.reduceAdd, Nat.reduceMod, Nat.reduceBEq, sid_mod, sid_ne1, sid_ne2, sid_inj])
  · have : i = lo.length := by omega
    subst this
    rw [List.take_length] at ht
    exact out2_tabI ht.done (by decide) (fun j hj => by have := List.mem_range.1 hj; omega)
end Go.Proofs.YtmpjajhklilleaaDoor

namespace Go.Proofs.YtmpjajhklilleaaDoor
open Go.Abs
set_option linter.unusedSimpArgs false
set_option linter.unusedVariables false

noncomputable def rkL (f : Nat → Bool) (p : Int) (k : Nat) : List Int := (List.range (dimN f + 1)).map fun j => if j < k then (rkF f p j : Int) else 0
theorem rkL_length (f : Nat → Bool) (p : Int) (k : Nat) : (rkL f p k).length = dimN f + 1 := by simp [rkL]
theorem rkL_getD (f : Nat → Bool) (p : Int) {k j : Nat} (h : j < dimN f + 1) : (rkL f p k).getD j 0 = if j < k then (rkF f p j : Int) else 0 := by simp [rkL, List.getD, h]
theorem rkL_one (f : Nat → Bool) (p : Int) : List.replicate (dimN f + 1) 0 = rkL f p 1 := by
  refine List.ext_getElem (by simp [rkL]) fun j a b => ?_
  simp only [List.getElem_replicate, rkL, List.getElem_map, List.getElem_range]
  split
  · have : j = 0 := by omega
    subst this; simp [rkF]
  · rfl
theorem rkL_set (f : Nat → Bool) (p : Int) {k : Nat} (h : k < dimN f) : (rkL f p k).set k (rkF f p k) = rkL f p (k + 1) := by
  refine List.ext_getElem (by simp [rkL]) fun j a b => ?_
  rw [List.getElem_set]
  simp only [rkL, List.getElem_map, List.getElem_range]
  by_cases e : k = j
  · subst e; simp
  · rw [if_neg e]
    by_cases h1 : j < k
    · rw [if_pos h1, if_pos (by omega)]
    · rw [if_neg h1, if_neg (by omega)]
theorem c_impl_holesIn (f : Nat → Bool) (p : Int) (hp : isP p = true) : AC Tryd.prog 53 [u64 (maskF f 64 : Nat), int p] (.fr 3 1 (iL (holF f p))) := by
  refine AC.go (rs := [.tmp 4]) T_ok mixed Tryd.func53 rfl rfl rfl (by kernel_rfl) fun hl => ?_
  have hd := dimN_le f
  have hsl := sizesL_length f
  simp (maxSteps := 5000000) -dsimp only [↓gp, gq, reduceCtorEq, Nat.reduceEqDiff, Nat.reduceLT, Nat.reduceLeDiff, Nat.reduceAdd, Nat.reduceMul, Nat.reduceSub, Nat.reduceBEq, Int.reduceToNat, Int.reduceLE, Int.reduceLT, Int.reduceNeg, Nat.reduceMod, sid_ne1, sid_ne2, sid_inj, sid_mod, gT, TK.isInt, TK.agg, Array.toList]
  refine askK_of (c_impl_bySize f) ?_
  have hw : IntKind.i64.wrap ((dimN f : Int) + 1) = ((dimN f + 1 : Nat) : Int) := by rw [wrap_id (by omega) (by omega)]; rfl
  simp (maxSteps := 5000000) -dsimp only [↓gp, gq, reduceCtorEq, Nat.reduceEqDiff, Nat.reduceLT, Nat.reduceLeDiff, Nat.reduceAdd, Nat.reduceMul, Nat.reduceSub, Nat.reduceBEq, Int.reduceToNat, Int.reduceLE, Int.reduceLT, Int.reduceNeg, Nat.reduceMod, sid_ne1, sid_ne2, sid_inj, sid_mod, gT, TK.isInt, TK.agg, Array.toList, hsl, hw]
  refine ⟨by omega, by omega, ?_⟩
  refine loop_of (fun (za : Nat × Nat × Nat) s => match za with | (k, v, w) => s.sl 1 = int p ∧ s.sl 5 = .own 11 v ∧ s.rw 11 = ⟨v, .sli 22 1 false (iLL (sizesL f))⟩ ∧ s.sl 6 = .own 15 w ∧ s.rw 15 = ⟨w, .sli 3 1 false (iL (rkL f p k))⟩ ∧ s.sl 7 = int k ∧ (1 ≤ k ∧ k ≤ dimN f + 1 ∧ (k ≤ dimN f ∨ dimN f = 0))) (fun (k, v, w) => dimN f + 1 - k) ((1, 1, 1)) (by refine ⟨?_, ?_, ?_, ?_, ?_, ?_, by simp; omega⟩ <;> (first | (simp (maxSteps := 5000000) -dsimp only [gr, Nat.reduceEqDiff, Nat.reduceLT, Nat.reduceAdd, Nat.reduceMod, Nat.reduceBEq, sid_mod, sid_ne1, sid_ne2, sid_inj, hsl, hw, rkL_one f p, iL_replicate]; first | done | rfl | (simp; done)) | assumption | rfl)) ?_
  intro (k, v, w) sa ⟨h1a, h5a, r11a, h6a, r15a, h7a, hIa⟩
  obtain ⟨hk1, hk2, hk3⟩ := hIa
  have hrl := rkL_length f p k
  simp (maxSteps := 5000000) -dsimp only [↓gp, gq, reduceCtorEq, Nat.reduceEqDiff, Nat.reduceLT, Nat.reduceLeDiff, Nat.reduceAdd, Nat.reduceMul, Nat.reduceSub, Nat.reduceBEq, Int.reduceToNat, Int.reduceLE, Int.reduceLT, Int.reduceNeg, Nat.reduceMod, sid_ne1, sid_ne2, sid_inj, sid_mod, gT, TK.isInt, TK.agg, Array.toList, h1a, h5a, r11a, h6a, r15a, h7a, hsl, hrl]
  refine ⟨fun h => ?_, fun h => ?_⟩
  · have hwk : IntKind.i64.wrap ((k : Int) - 1) = ((k - 1 : Nat) : Int) := by rw [wrap_id (by omega) (by omega)]; omega
    have hg1 := sizesL_getD f (k := k - 1) (by omega)
    have hg2 := sizesL_getD f h
    have ho1 := ordS_len f (k - 1) (Nat.le_refl 64)
    have ho2 := ordS_len f k (Nat.le_refl 64)
    simp (maxSteps := 5000000) -dsimp only [↓gp, gq, reduceCtorEq, Nat.reduceEqDiff, Nat.reduceLT, Nat.reduceLeDiff, Nat.reduceAdd, Nat.reduceMul, Nat.reduceSub, Nat.reduceBEq, Int.reduceToNat, Int.reduceLE, Int.reduceLT, Int.reduceNeg, Nat.reduceMod, sid_ne1, sid_ne2, sid_inj, sid_mod, gT, TK.isInt, TK.agg, Array.toList, h1a, h5a, r11a, h6a, r15a, h7a, hsl, hrl, hwk, hg1, hg2]
    refine ⟨by kernel_rfl, by omega, by omega, h, h, askK_of (c_impl_borderOf (ordS f (k - 1) 64) (ordS f k 64) (k - 1) ho1 ho2 (fun i hi => ?_) (fun i hi => ?_)) ?_⟩
    · have := mem_ordS.1 (getD_mem 0 hi); exact ⟨this.1, this.2.2⟩
    · have := mem_ordS.1 (getD_mem 0 hi); exact ⟨this.1, by omega⟩
    · simp (maxSteps := 5000000) -dsimp only [↓gp, gq, reduceCtorEq, Nat.reduceEqDiff, Nat.reduceLT, Nat.reduceLeDiff, Nat.reduceAdd, Nat.reduceMul, Nat.reduceSub, Nat.reduceBEq, Int.reduceToNat, Int.reduceLE, Int.reduceLT, Int.reduceNeg, Nat.reduceMod, sid_ne1, sid_ne2, sid_inj, sid_mod, gT, TK.isInt, TK.agg, Array.toList, h1a, h5a, r11a, h6a, r15a, h7a, hsl, hrl, hwk, hg1, hg2]
      have hrk : rankM p (bordM (ordS f (k - 1) 64) (ordS f k 64)) = rkF f p k := by unfold rkF; rw [if_neg (by omega)]
      have hb1 := bordM_length (ordS f (k - 1) 64) (ordS f k 64)
      have hb3 := bordM_len0 (ordS f (k - 1) 64) (ordS f k 64)
      refine askK_of (c_impl_rankOf _ p hp (by omega) (bordM_rect _ _) (by omega)) ?_
      rw [hrk]
      have hset := rkL_set f p h
      simp (maxSteps := 5000000) -dsimp only [↓gp, gq, reduceCtorEq, Nat.reduceEqDiff, Nat.reduceLT, Nat.reduceLeDiff, Nat.reduceAdd, Nat.reduceMul, Nat.reduceSub, Nat.reduceBEq, Int.reduceToNat, Int.reduceLE, Int.reduceLT, Int.reduceNeg, Nat.reduceMod, sid_ne1, sid_ne2, sid_inj, sid_mod, gT, TK.isInt, TK.agg, Array.toList, h1a, h5a, r11a, h6a, r15a, h7a, hsl, hrl, hwk, hg1, hg2, hset]
      refine ⟨by omega, by omega, by kernel_rfl, ?_⟩
      exact again_of ((k + 1, v, w)) (by refine ⟨?_, ?_, ?_, ?_, ?_, ?_, ⟨by dsimp only; omega, by dsimp only; omega, by dsimp only; omega⟩⟩ <;> (first | (simp (maxSteps := 5000000) -dsimp only [gr, Nat.reduceEqDiff, Nat.reduceLT, Nat.reduceAdd, Nat.reduceMod, Nat.reduceBEq, sid_mod, sid_ne1, sid_ne2, sid_inj, h1a, h5a, r11a, h6a, r15a, h7a, wrap_nat h (by omega), hwk, hg1, hg2, hset]; first | done | rfl | (simp; done)) | assumption | rfl)) (by first | omega | (simp only; omega) | (dsimp only; omega) | (show _ < _; simp; omega))
  · have hrk : ∀ j, j < dimN f + 1 → (rkL f p k).getD j 0 = (rkF f p j : Int) := fun j hj => by
      rw [rkL_getD f p hj]
      split
      · rfl
      · rw [rkF_out (by omega)]; rfl
    generalize rkL f p k = rk at *
    refine ⟨by omega, by omega, ?_⟩
    refine loop_of (fun (zb : Nat × Nat × Nat × Nat) s => match zb with | (k, v, w, u) => s.sl 5 = .own 11 v ∧ s.rw 11 = ⟨v, .sli 22 1 false (iLL (sizesL f))⟩ ∧ s.sl 6 = .own 15 w ∧ s.rw 15 = ⟨w, .sli 3 1 false (iL rk)⟩ ∧ s.sl 8 = .own 39 u ∧ s.rw 39 = ⟨u, .sli 3 1 false (iL (prt (holF f p) (List.replicate (dimN f) 0) k))⟩ ∧ s.sl 41 = int (dimN f : Nat) ∧ s.sl 42 = int k ∧ (k ≤ dimN f)) (fun (k, v, w, u) => dimN f - k) ((0, v, w, (sa.rw 39).ver + 1)) (by refine ⟨?_, ?_, ?_, ?_, ?_, ?_, ?_, ?_, by omega⟩ <;> (first | (simp (maxSteps := 5000000) -dsimp only [gr, Nat.reduceEqDiff, Nat.reduceLT, Nat.reduceAdd, Nat.reduceMod, Nat.reduceBEq, sid_mod, sid_ne1, sid_ne2, sid_inj, h1a, h5a, r11a, h6a, r15a, h7a, hsl, prt_zero, iL_replicate]; first | done | rfl | (simp; done)) | assumption | rfl)) ?_
    intro (k, v, w, u) sb ⟨h5b, r11b, h6b, r15b, h8b, r39b, h41b, h42b, hIb⟩
    have hnl : (holF f p).length = (List.replicate (dimN f) (0 : Int)).length := by simp [holF_length]
    have hpl : (prt (holF f p) (List.replicate (dimN f) 0) k).length = dimN f := by rw [prt_length hnl]; simp
    by_cases h2 : k < dimN f
    · have hwk := wrap_nat h2 (by omega)
      have hg1 := sizesL_getD f h2
      have ho1 := ordS_len f k (Nat.le_refl 64)
      have hr1 := rkF_le f p k
      have hr2 := rkF_le f p (k + 1)
      have hw1 : IntKind.i64.wrap (((ordS f k 64).length : Int) - (rkF f p k : Int)) = ((ordS f k 64).length : Int) - (rkF f p k : Int) := wrap_id (by omega) (by omega)
      have hw2 : IntKind.i64.wrap (((ordS f k 64).length : Int) - (rkF f p k : Int) - (rkF f p (k + 1) : Int)) = ((ordS f k 64).length : Int) - (rkF f p k : Int) - (rkF f p (k + 1) : Int) := wrap_id (by omega) (by omega)
      have hk1 := hrk k (by omega)
      have hk2 := hrk (k + 1) (by omega)
      have hset : (prt (holF f p) (List.replicate (dimN f) 0) k).set k (((ordS f k 64).length : Int) - rkF f p k - rkF f p (k + 1)) = prt (holF f p) (List.replicate (dimN f) 0) (k + 1) := by
        rw [← holF_getD f p h2, prt_set hnl (by simpa using h2)]
      simp (maxSteps := 5000000) -dsimp only [↓gp, gq, reduceCtorEq, Nat.reduceEqDiff, Nat.reduceLT, Nat.reduceLeDiff, Nat.reduceAdd, Nat.reduceMul, Nat.reduceSub, Nat.reduceBEq, Int.reduceToNat, Int.reduceLE, Int.reduceLT, Int.reduceNeg, Nat.reduceMod, sid_ne1, sid_ne2, sid_inj, sid_mod, gT, TK.isInt, TK.agg, Array.toList, h5b, r11b, h6b, r15b, h8b, r39b, h41b, h42b, hsl, hrl, hpl, hwk, hg1, ofN_length, hk1, hk2, hw1, hw2, hset]
      refine ⟨fun _ => ⟨by kernel_rfl, h2, h2, by omega, by omega, by omega, by omega, h2, by omega, by kernel_rfl, ?_⟩, fun h3 => absurd h2 h3⟩
      exact again_of ((k + 1, v, w, u)) (by refine ⟨?_, ?_, ?_, ?_, ?_, ?_, ?_, ?_, by dsimp only; omega⟩ <;> (first | (simp (maxSteps := 5000000) -dsimp only [gr, Nat.reduceEqDiff, Nat.reduceLT, Nat.reduceAdd, Nat.reduceMod, Nat.reduceBEq, sid_mod, sid_ne1, sid_ne2, sid_inj, h5b, r11b, h6b, r15b, h8b, r39b, h41b, h42b, hwk, hg1, hk1, hk2, hw1, hw2, hset]; first | done | rfl | (simp; done)) | assumption | rfl)) (by first | omega | (simp only; omega) | (dsimp only; omega) | (show _ < _; simp; omega))
    · simp (maxSteps := 5000000) -dsimp only [↓gp, gq, reduceCtorEq, Nat.reduceEqDiff, Nat.reduceLT, Nat.reduceLeDiff, Nat.reduceAdd, Nat.reduceMul, Nat.reduceSub, Nat.reduceBEq, Int.reduceToNat, Int.reduceLE, Int.reduceLT, Int.reduceNeg, Nat.reduceMod, sid_ne1, sid_ne2, sid_inj, sid_mod, gT, TK.isInt, TK.agg, Array.toList, h5b, r11b, h6b, r15b, h8b, r39b, h41b, h42b, hsl, hrl, hpl]
      refine ⟨fun h3 => absurd h3 h2, fun _ => ?_⟩
      have e : k = (List.replicate (dimN f) (0 : Int)).length := by simp; omega
      have := prt_end hnl
      rw [← e] at this
      rw [this]
end Go.Proofs.YtmpjajhklilleaaDoor

namespace Go.Proofs.YtmpjajhklilleaaDoor
open Go.Abs
set_option linter.unusedSimpArgs false
set_option linter.unusedVariables false

/-- A complex with a face at all. -/
noncomputable def hasF (n : Int) (xs : List Int) : Bool := isCx n xs && !(xs.length == 0)
theorem hasF_iff {n : Int} {xs : List Int} : hasF n xs = true ↔ isCx n xs = true ∧ 0 < xs.length := by
  unfold hasF
  cases isCx n xs <;> simp [Nat.pos_iff_ne_zero]
noncomputable def dimR (n : Int) (xs : List Int) : Int := if hasF n xs = true then (popN (xs.getD (xs.length - 1) 0).toNat : Int) - 1 else -2
theorem dimR_test (n : Int) (xs : List Int) : decide (dimR n xs < -1) = !hasF n xs := by
  unfold dimR
  cases hasF n xs <;> simp; omega
theorem c_spec_DimOf (n : Int) (xs : List Int) : AC Tryd.prog 45 [.ag [int n, ints xs]] (.im (int (dimR n xs))) := by
  refine AC.go (rs := [.tmp 2]) T_ok mixed Tryd.func45 rfl rfl rfl (by kernel_rfl) fun hl => ?_
  simp only [lens_cons, lens_nil, and_true, lens2_ag2, lens1_v, lens1_iL, true_and] at hl
  simp (maxSteps := 5000000) -dsimp only [↓gp, gq, reduceCtorEq, Nat.reduceEqDiff, Nat.reduceLT, Nat.reduceLeDiff, Nat.reduceAdd, Nat.reduceMul, Nat.reduceSub, Nat.reduceBEq, Int.reduceToNat, Int.reduceLE, Int.reduceLT, Int.reduceNeg, Nat.reduceMod, sid_ne1, sid_ne2, sid_inj, sid_mod, gT, TK.isInt, TK.agg, Array.toList]
  refine askK_of (c_spec_IsComplex n xs) ?_
  have hw : 0 < xs.length → IntKind.i64.wrap ((xs.length : Int) - 1) = ((xs.length - 1 : Nat) : Int) := fun h => by rw [wrap_id (by omega) (by omega)]; omega
  by_cases hh : hasF n xs = true
  · obtain ⟨h1, h2⟩ := hasF_iff.1 hh
    have hs := okS_at (cx_ok h1) (k := xs.length - 1) (by omega)
    have hc := c_spec_l2Sizei (s := xs.getD (xs.length - 1) 0) hs.1 (by omega)
    have hz : ((xs.length : Int) == 0) = false := by rw [beq_eq_false_iff_ne]; omega
    have hp := pop_le6 (s := (xs.getD (xs.length - 1) 0).toNat) (by omega)
    simp (maxSteps := 5000000) -dsimp only [↓gp, gq, reduceCtorEq, Nat.reduceEqDiff, Nat.reduceLT, Nat.reduceLeDiff, Nat.reduceAdd, Nat.reduceMul, Nat.reduceSub, Nat.reduceBEq, Int.reduceToNat, Int.reduceLE, Int.reduceLT, Int.reduceNeg, Nat.reduceMod, sid_ne1, sid_ne2, sid_inj, sid_mod, gT, TK.isInt, TK.agg, Array.toList, h1, hz, hw h2, Int.toNat_natCast]
    refine ⟨by omega, by omega, askK_of hc ?_⟩
    have hw2 : IntKind.i64.wrap ((popN (xs.getD (xs.length - 1) 0).toNat : Int) - 1) = (popN (xs.getD (xs.length - 1) 0).toNat : Int) - 1 := wrap_id (by omega) (by omega)
    have hd : dimR n xs = (popN (xs.getD (xs.length - 1) 0).toNat : Int) - 1 := if_pos hh
    simp (maxSteps := 5000000) -dsimp only [↓gp, gq, reduceCtorEq, Nat.reduceEqDiff, Nat.reduceLT, Nat.reduceLeDiff, Nat.reduceAdd, Nat.reduceMul, Nat.reduceSub, Nat.reduceBEq, Int.reduceToNat, Int.reduceLE, Int.reduceLT, Int.reduceNeg, Nat.reduceMod, sid_ne1, sid_ne2, sid_inj, sid_mod, gT, TK.isInt, TK.agg, Array.toList, hw2, hd]
  · have hd : dimR n xs = -2 := if_neg hh
    rw [hd]
    simp (maxSteps := 5000000) -dsimp only [↓gp, gq, reduceCtorEq, Nat.reduceEqDiff, Nat.reduceLT, Nat.reduceLeDiff, Nat.reduceAdd, Nat.reduceMul, Nat.reduceSub, Nat.reduceBEq, Int.reduceToNat, Int.reduceLE, Int.reduceLT, Int.reduceNeg, Nat.reduceMod, sid_ne1, sid_ne2, sid_inj, sid_mod, gT, TK.isInt, TK.agg, Array.toList]
    exact fun hc h0 => absurd (hasF_iff.2 ⟨by simpa using hc, by simp at h0; exact List.length_pos_iff.2 h0⟩) hh
theorem c_spec_l3Make (n : Int) (xs : List Int) (hx : okS xs) : AC Tryd.prog 63 [int n, ints xs] (.ag [.im (int n), .fr 3 1 (iL (ofN (extN (inF xs) true)))]) := by
  refine AC.go (rs := [.cell 4 31]) T_ok mixed Tryd.func63 rfl rfl rfl (by kernel_rfl) fun hl => ?_
  simp (maxSteps := 5000000) -dsimp only [↓gp, gq, reduceCtorEq, Nat.reduceEqDiff, Nat.reduceLT, Nat.reduceLeDiff, Nat.reduceAdd, Nat.reduceMul, Nat.reduceSub, Nat.reduceBEq, Int.reduceToNat, Int.reduceLE, Int.reduceLT, Int.reduceNeg, Nat.reduceMod, sid_ne1, sid_ne2, sid_inj, sid_mod, gT, TK.isInt, TK.agg, Array.toList]
  refine askK_of (c_spec_l2Extreme true xs hx) ?_
  simp (maxSteps := 5000000) -dsimp only [↓gp, gq, reduceCtorEq, Nat.reduceEqDiff, Nat.reduceLT, Nat.reduceLeDiff, Nat.reduceAdd, Nat.reduceMul, Nat.reduceSub, Nat.reduceBEq, Int.reduceToNat, Int.reduceLE, Int.reduceLT, Int.reduceNeg, Nat.reduceMod, sid_ne1, sid_ne2, sid_inj, sid_mod, gT, TK.isInt, TK.agg, Array.toList]
theorem c_spec_l5Inside (n : Int) (xs : List Int) (w : Nat) (hw : w < 64) (hx : okS xs) (hlen : xs.length ≤ 1000) : AC Tryd.prog 49 [.ag [int n, ints xs], int w] (.ag [.im (int n), .fr 3 1 (iL (ofN (extN (inF (xs.map fun x => iand .i64 x w)) true)))]) := by
  refine AC.go (rs := [.cell 4 31]) T_ok mixed Tryd.func49 rfl rfl rfl (by kernel_rfl) fun hl => ?_
  simp only [lens_cons, lens_nil, and_true, lens2_ag2, lens1_v, lens1_iL, true_and] at hl
  simp (maxSteps := 5000000) -dsimp only [↓gp, gq, reduceCtorEq, Nat.reduceEqDiff, Nat.reduceLT, Nat.reduceLeDiff, Nat.reduceAdd, Nat.reduceMul, Nat.reduceSub, Nat.reduceBEq, Int.reduceToNat, Int.reduceLE, Int.reduceLT, Int.reduceNeg, Nat.reduceMod, sid_ne1, sid_ne2, sid_inj, sid_mod, gT, TK.isInt, TK.agg, Array.toList]
  have hmap : ∀ k, k < xs.length → (xs.take (k + 1)).map (fun x => iand .i64 x w) = (xs.take k).map (fun x => iand .i64 x w) ++ [iand .i64 (xs.getD k 0) w] := fun k h => by rw [take_snoc 0 h]; simp
  refine loop_of (fun (za : Nat × Nat) s => match za with | (k, v) => s.sl 1 = int w ∧ s.sl 2 = .ref 2 1 0 ∧ s.rw 2 = ⟨1, .box 31 [int n, ints xs]⟩ ∧ s.sl 4 = .ref 4 1 0 ∧ s.rw 4 = ⟨1, .box 31 [int 0, .v (.slice none 0 0)]⟩ ∧ s.sl 5 = .own 7 v ∧ s.rw 7 = ⟨v, .sli 3 1 false (iL ((xs.take k).map fun x => iand .i64 x w))⟩ ∧ s.sl 6 = int k ∧ (k ≤ xs.length)) (fun (k, v) => xs.length - k) ((0, 1)) (by refine ⟨?_, ?_, ?_, ?_, ?_, ?_, ?_, ?_, by simp⟩ <;> (first | (simp (maxSteps := 5000000) -dsimp only [gr, Nat.reduceEqDiff, Nat.reduceLT, Nat.reduceAdd, Nat.reduceMod, Nat.reduceBEq, sid_mod, sid_ne1, sid_ne2, sid_inj]; first | done | rfl | (simp; done)) | assumption | rfl)) ?_
  intro (k, v) sa ⟨h1a, h2a, r2a, h4a, r4a, h5a, r7a, h6a, hIa⟩
  simp (maxSteps := 5000000) -dsimp only [↓gp, gq, reduceCtorEq, Nat.reduceEqDiff, Nat.reduceLT, Nat.reduceLeDiff, Nat.reduceAdd, Nat.reduceMul, Nat.reduceSub, Nat.reduceBEq, Int.reduceToNat, Int.reduceLE, Int.reduceLT, Int.reduceNeg, Nat.reduceMod, sid_ne1, sid_ne2, sid_inj, sid_mod, gT, TK.isInt, TK.agg, Array.toList, h1a, h2a, r2a, h4a, r4a, h5a, r7a, h6a]
  refine ⟨fun h => ⟨h, h, by rw [List.length_map, List.length_take]; omega, again_of ((k + 1, v + 1)) (by refine ⟨?_, ?_, ?_, ?_, ?_, ?_, ?_, ?_, by omega⟩ <;> (first | (simp (maxSteps := 5000000) -dsimp only [gr, Nat.reduceEqDiff, Nat.reduceLT, Nat.reduceAdd, Nat.reduceMod, Nat.reduceBEq, sid_mod, sid_ne1, sid_ne2, sid_inj, h1a, h2a, r2a, h4a, r4a, h5a, r7a, h6a, wrap_nat h (by omega), hmap k h]; first | done | rfl | (simp; done)) | assumption | rfl)) (by first | omega | (simp only; omega) | (dsimp only; omega) | (show _ < _; simp; omega))⟩, fun h => ?_⟩
  have : k = xs.length := by omega
  subst this
  have ht : xs.take xs.length = xs := List.take_length
  rw [ht] at r7a
  refine askK_of (c_spec_l3Make n _ ?_) ?_
  · intro x hx'
    obtain ⟨y, hy, rfl⟩ := List.mem_map.1 hx'
    exact iand_lt (hx y (by rwa [ht] at hy)) (by omega)
  · simp (maxSteps := 5000000) -dsimp only [↓gp, gq, reduceCtorEq, Nat.reduceEqDiff, Nat.reduceLT, Nat.reduceLeDiff, Nat.reduceAdd, Nat.reduceMul, Nat.reduceSub, Nat.reduceBEq, Int.reduceToNat, Int.reduceLE, Int.reduceLT, Int.reduceNeg, Nat.reduceMod, sid_ne1, sid_ne2, sid_inj, sid_mod, gT, TK.isInt, TK.agg, Array.toList, h1a, h2a, r2a, h4a, r4a, h5a, r7a, h6a, ht]
end Go.Proofs.YtmpjajhklilleaaDoor
