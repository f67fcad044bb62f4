/- DERIVED by an AI agent. -/
import Derived.Test.YtlapkhmehcnjeaaQ3
import Derived.Test.YtlapkhmehcnjeaaP1
import Derived.Test.YtlapkhmehcnjeaaQ2
namespace Go.Proofs.Ytlapkhmehcnjeaa
open Go.Abs
set_option linter.unusedSimpArgs false
set_option linter.unusedVariables false

/-- The sets that are no faces. -/
noncomputable def misF (n : Int) (xs : List Int) (s : Nat) : Bool := isCx n xs && (inSet n s && !faceB xs s)
noncomputable def misL (n : Int) (xs : List Int) : List Nat := extN (misF n xs) false
theorem misF_lt {n : Int} {xs : List Int} {s : Nat} (h : misF n xs s = true) : s < 64 := by
  unfold misF at h
  simp only [Bool.and_eq_true] at h
  have := inSet_lt h.2.1
  omega
theorem misF_fil (n : Int) (xs : List Int) : inF (ofN ((List.range 64).filter (misF n xs))) = misF n xs := by
  funext s
  rw [inF_ofN]
  refine Bool.eq_iff_iff.2 ?_
  rw [decide_eq_true_iff, List.mem_filter, List.mem_range]
  exact ⟨fun h => h.2, fun h => ⟨misF_lt h, h⟩⟩
theorem misF_no {n : Int} {xs : List Int} (h : isCx n xs = false) (s : Nat) : misF n xs s = false := by unfold misF; rw [h]; rfl
theorem misL_no {n : Int} {xs : List Int} (h : isCx n xs = false) : misL n xs = [] := by
  unfold misL extN ordN ordS
  have : misF n xs = fun _ => false := funext (misF_no h)
  rw [this]; simp
theorem misL_len (n : Int) (xs : List Int) : (misL n xs).length ≤ 448 := extN_len _ _
theorem c_spec_MissingSets (n : Int) (xs : List Int) : AC Try.prog 58 [.ag [int n, ints xs]] (.fr 3 1 (iL (ofN (misL n xs)))) := by
  refine AC.go (rs := [.tmp 2]) T_ok mixed Try.func58 rfl rfl rfl (by kernel_rfl) fun hl => ?_
  simp (maxSteps := 5000000) -dsimp only [↓gp, gq, reduceCtorEq, Nat.reduceEqDiff, Nat.reduceLT, Nat.reduceLeDiff, Nat.reduceAdd, Nat.reduceMul, Nat.reduceSub, Nat.reduceBEq, Int.reduceToNat, Int.reduceLE, Int.reduceLT, Int.reduceNeg, Nat.reduceMod, sid_ne1, sid_ne2, sid_inj, sid_mod, gT, TK.isInt, TK.agg, Array.toList]
  refine loop_of (fun (za : Nat × Nat) s => match za with | (t, v) => s.sl 1 = .ref 1 1 0 ∧ s.rw 1 = ⟨1, .box 24 [int n, ints xs]⟩ ∧ s.sl 3 = .own 5 v ∧ s.rw 5 = ⟨v, .sli 3 1 false (iL (ofN ((List.range t).filter (misF n xs))))⟩ ∧ s.sl 4 = int t ∧ (t ≤ 64)) (fun (t, v) => 64 - t) ((0, 1)) (by refine ⟨?_, ?_, ?_, ?_, ?_, by simp⟩ <;> (first | (simp (maxSteps := 5000000) -dsimp only [gr, Nat.reduceEqDiff, Nat.reduceLT, Nat.reduceAdd, Nat.reduceMod, Nat.reduceBEq, sid_mod, sid_ne1, sid_ne2, sid_inj]; first | done | rfl | (simp; done)) | assumption | rfl)) ?_
  intro (t, v) sa ⟨h1a, r1a, h3a, r5a, h4a, hIa⟩
  have hfl : ((List.range t).filter (misF n xs)).length ≤ 64 := by
    have := List.length_filter_le (misF n xs) (List.range t)
    rw [List.length_range] at this
    omega
  have hend : (t = 64 ∨ isCx n xs = false) → inF (ofN ((List.range t).filter (misF n xs))) = misF n xs := fun h => by
    rcases h with rfl | h
    · exact misF_fil n xs
    · funext i
      rw [inF_ofN, misF_no h]
      exact decide_eq_false fun hm => by rw [List.mem_filter, misF_no h] at hm; cases hm.2
  have hext : (t = 64 ∨ isCx n xs = false) → AC Try.prog 88 [ints (ofN ((List.range t).filter (misF n xs))), bool false] (.fr 3 1 (iL (ofN (misL n xs)))) := fun h => by
    have := c_spec_l2Extreme false _ (ofN_ok (l := (List.range t).filter (misF n xs)) fun i hi => misF_lt (List.mem_filter.1 hi).2)
    rwa [hend h] at this
  simp (maxSteps := 5000000) -dsimp only [↓gp, gq, reduceCtorEq, Nat.reduceEqDiff, Nat.reduceLT, Nat.reduceLeDiff, Nat.reduceAdd, Nat.reduceMul, Nat.reduceSub, Nat.reduceBEq, Int.reduceToNat, Int.reduceLE, Int.reduceLT, Int.reduceNeg, Nat.reduceMod, sid_ne1, sid_ne2, sid_inj, sid_mod, gT, TK.isInt, TK.agg, Array.toList, h1a, r1a, h3a, r5a, h4a]
  refine ⟨fun h => askK_of (c_spec_IsComplex n xs) ?_, fun h => askK_of (hext (.inl (by omega))) ?_⟩
  · simp (maxSteps := 5000000) -dsimp only [↓gp, gq, reduceCtorEq, Nat.reduceEqDiff, Nat.reduceLT, Nat.reduceLeDiff, Nat.reduceAdd, Nat.reduceMul, Nat.reduceSub, Nat.reduceBEq, Int.reduceToNat, Int.reduceLE, Int.reduceLT, Int.reduceNeg, Nat.reduceMod, sid_ne1, sid_ne2, sid_inj, sid_mod, gT, TK.isInt, TK.agg, Array.toList, h1a, r1a, h3a, r5a, h4a]
    refine ⟨fun hc => askK_of (c_spec_IsSet _ _) ?_, fun hc => askK_of (hext (.inr hc)) ?_⟩
    · have hx := cx_ok hc
      have h : t < 64 := by omega
      have hms : misF n xs t = (inSet n t && !faceB xs t) := by unfold misF; rw [hc]; rfl
      have hyes : misF n xs t = true → ofN ((List.range (t + 1)).filter (misF n xs)) = ofN ((List.range t).filter (misF n xs)) ++ [(t : Int)] := fun h => by
        rw [List.range_succ, List.filter_append, ofN_append]
        simp [h, ofN]
      have hno : misF n xs t = false → ofN ((List.range (t + 1)).filter (misF n xs)) = ofN ((List.range t).filter (misF n xs)) := fun h => by
        rw [List.range_succ, List.filter_append, ofN_append]
        simp [h, ofN]
      simp (maxSteps := 5000000) -dsimp only [↓gp, gq, reduceCtorEq, Nat.reduceEqDiff, Nat.reduceLT, Nat.reduceLeDiff, Nat.reduceAdd, Nat.reduceMul, Nat.reduceSub, Nat.reduceBEq, Int.reduceToNat, Int.reduceLE, Int.reduceLT, Int.reduceNeg, Nat.reduceMod, sid_ne1, sid_ne2, sid_inj, sid_mod, gT, TK.isInt, TK.agg, Array.toList, h1a, r1a, h3a, r5a, h4a]
      refine ⟨fun hs => askK_of (c_spec_l3Has n xs t hx h) ?_, fun hs => ?_⟩
      · simp (maxSteps := 5000000) -dsimp only [↓gp, gq, reduceCtorEq, Nat.reduceEqDiff, Nat.reduceLT, Nat.reduceLeDiff, Nat.reduceAdd, Nat.reduceMul, Nat.reduceSub, Nat.reduceBEq, Int.reduceToNat, Int.reduceLE, Int.reduceLT, Int.reduceNeg, Nat.reduceMod, sid_ne1, sid_ne2, sid_inj, sid_mod, gT, TK.isInt, TK.agg, Array.toList, h1a, r1a, h3a, r5a, h4a]
        refine ⟨fun hf => ?_, fun hf => ?_⟩
        · have e := hyes (by rw [hms, hs, hf]; rfl)
          refine ⟨by rw [ofN_length]; omega, again_of ((t + 1, v + 1)) (by refine ⟨?_, ?_, ?_, ?_, ?_, by dsimp only; omega⟩ <;> (first | (simp (maxSteps := 5000000) -dsimp only [gr, Nat.reduceEqDiff, Nat.reduceLT, Nat.reduceAdd, Nat.reduceMod, Nat.reduceBEq, sid_mod, sid_ne1, sid_ne2, sid_inj, h1a, r1a, h3a, r5a, h4a, wrap_nat h (by omega), e]; first | done | rfl | (simp; done)) | assumption | rfl)) (by first | omega | (simp only; omega) | (dsimp only; omega) | (show _ < _; simp; omega))⟩
        · have e := hno (by rw [hms, hf]; simp)
          exact again_of ((t + 1, v)) (by refine ⟨?_, ?_, ?_, ?_, ?_, by dsimp only; omega⟩ <;> (first | (simp (maxSteps := 5000000) -dsimp only [gr, Nat.reduceEqDiff, Nat.reduceLT, Nat.reduceAdd, Nat.reduceMod, Nat.reduceBEq, sid_mod, sid_ne1, sid_ne2, sid_inj, h1a, r1a, h3a, r5a, h4a, wrap_nat h (by omega), e]; first | done | rfl | (simp; done)) | assumption | rfl)) (by first | omega | (simp only; omega) | (dsimp only; omega) | (show _ < _; simp; omega))
      · have e := hno (by rw [hms, hs]; rfl)
        exact again_of ((t + 1, v)) (by refine ⟨?_, ?_, ?_, ?_, ?_, by dsimp only; omega⟩ <;> (first | (simp (maxSteps := 5000000) -dsimp only [gr, Nat.reduceEqDiff, Nat.reduceLT, Nat.reduceAdd, Nat.reduceMod, Nat.reduceBEq, sid_mod, sid_ne1, sid_ne2, sid_inj, h1a, r1a, h3a, r5a, h4a, wrap_nat h (by omega), e]; first | done | rfl | (simp; done)) | assumption | rfl)) (by first | omega | (simp only; omega) | (dsimp only; omega) | (show _ < _; simp; omega))
    · simp (maxSteps := 5000000) -dsimp only [↓gp, gq, reduceCtorEq, Nat.reduceEqDiff, Nat.reduceLT, Nat.reduceLeDiff, Nat.reduceAdd, Nat.reduceMul, Nat.reduceSub, Nat.reduceBEq, Int.reduceToNat, Int.reduceLE, Int.reduceLT, Int.reduceNeg, Nat.reduceMod, sid_ne1, sid_ne2, sid_inj, sid_mod, gT, TK.isInt, TK.agg, Array.toList, h1a, r1a, h3a, r5a, h4a]
  · simp (maxSteps := 5000000) -dsimp only [↓gp, gq, reduceCtorEq, Nat.reduceEqDiff, Nat.reduceLT, Nat.reduceLeDiff, Nat.reduceAdd, Nat.reduceMul, Nat.reduceSub, Nat.reduceBEq, Int.reduceToNat, Int.reduceLE, Int.reduceLT, Int.reduceNeg, Nat.reduceMod, sid_ne1, sid_ne2, sid_inj, sid_mod, gT, TK.isInt, TK.agg, Array.toList, h1a, r1a, h3a, r5a, h4a]
theorem c_impl_missingIn_1 (G t : Nat) (hG : G < 18446744073709551616) (ht : t < 64) : AC Try.prog 122 [int t, .eref false [u64 G] 0] (.im (bool (!G.testBit t))) := by
  refine AC.go (rs := [.tmp 3]) T_ok mixed Try.func122 rfl rfl rfl (by kernel_rfl) fun hl => ?_
  simp (maxSteps := 5000000) -dsimp only [↓gp, gq, reduceCtorEq, Nat.reduceEqDiff, Nat.reduceLT, Nat.reduceLeDiff, Nat.reduceAdd, Nat.reduceMul, Nat.reduceSub, Nat.reduceBEq, Int.reduceToNat, Int.reduceLE, Int.reduceLT, Int.reduceNeg, Nat.reduceMod, sid_ne1, sid_ne2, sid_inj, sid_mod, gT, TK.isInt, TK.agg, Array.toList]
  refine askK_of (c_impl_hasSet G t hG ht) ?_
  simp (maxSteps := 5000000) -dsimp only [↓gp, gq, reduceCtorEq, Nat.reduceEqDiff, Nat.reduceLT, Nat.reduceLeDiff, Nat.reduceAdd, Nat.reduceMul, Nat.reduceSub, Nat.reduceBEq, Int.reduceToNat, Int.reduceLE, Int.reduceLT, Int.reduceNeg, Nat.reduceMod, sid_ne1, sid_ne2, sid_inj, sid_mod, gT, TK.isInt, TK.agg, Array.toList]
theorem c_impl_missingIn (n G : Nat) (hn : n ≤ 6) (hG : G < 18446744073709551616) : AC Try.prog 92 [int n, u64 G] (.fr 3 1 (iL (ofN (extN (fun s => decide (s < 2 ^ n) && !G.testBit s) false)))) := by
  refine AC.go (rs := [.tmp 4]) T_ok mixed Try.func92 rfl rfl rfl (by kernel_rfl) fun hl => ?_
  have h64 := two_pow_le hn
  simp (maxSteps := 5000000) -dsimp only [↓gp, gq, reduceCtorEq, Nat.reduceEqDiff, Nat.reduceLT, Nat.reduceLeDiff, Nat.reduceAdd, Nat.reduceMul, Nat.reduceSub, Nat.reduceBEq, Int.reduceToNat, Int.reduceLE, Int.reduceLT, Int.reduceNeg, Nat.reduceMod, sid_ne1, sid_ne2, sid_inj, sid_mod, gT, TK.isInt, TK.agg, Array.toList]
  refine askK_of (c_impl_pickSets n hn _ [.eref false [u64 G] 0] (fun s => !G.testBit s) (fun rw => rfl) fun s hs => c_impl_missingIn_1 G s hG (by omega)) ?_
  simp (maxSteps := 5000000) -dsimp only [↓gp, gq, reduceCtorEq, Nat.reduceEqDiff, Nat.reduceLT, Nat.reduceLeDiff, Nat.reduceAdd, Nat.reduceMul, Nat.reduceSub, Nat.reduceBEq, Int.reduceToNat, Int.reduceLE, Int.reduceLT, Int.reduceNeg, Nat.reduceMod, sid_ne1, sid_ne2, sid_inj, sid_mod, gT, TK.isInt, TK.agg, Array.toList]
  refine askK_of (c_impl_minimalIn _ (mask_lt64 _ hn)) ?_
  have e : (maskF (fun s => !G.testBit s) (2 ^ n)).testBit = fun s => decide (s < 2 ^ n) && !G.testBit s := funext fun s => maskF_bit _ _ _
  rw [e]
  simp (maxSteps := 5000000) -dsimp only [↓gp, gq, reduceCtorEq, Nat.reduceEqDiff, Nat.reduceLT, Nat.reduceLeDiff, Nat.reduceAdd, Nat.reduceMul, Nat.reduceSub, Nat.reduceBEq, Int.reduceToNat, Int.reduceLE, Int.reduceLT, Int.reduceNeg, Nat.reduceMod, sid_ne1, sid_ne2, sid_inj, sid_mod, gT, TK.isInt, TK.agg, Array.toList]
theorem c_impl_MissingSets (n : Int) (xs : List Int) : AC Try.prog 62 [.ag [int n, ints xs]] (.fr 3 1 (iL (ofN (misL n xs)))) := by
  refine AC.go (rs := [.tmp 2]) T_ok mixed Try.func62 rfl rfl rfl (by kernel_rfl) fun hl => ?_
  simp (maxSteps := 5000000) -dsimp only [↓gp, gq, reduceCtorEq, Nat.reduceEqDiff, Nat.reduceLT, Nat.reduceLeDiff, Nat.reduceAdd, Nat.reduceMul, Nat.reduceSub, Nat.reduceBEq, Int.reduceToNat, Int.reduceLE, Int.reduceLT, Int.reduceNeg, Nat.reduceMod, sid_ne1, sid_ne2, sid_inj, sid_mod, gT, TK.isInt, TK.agg, Array.toList]
  refine askK_of (c_impl_IsComplex n xs) ?_
  simp (maxSteps := 5000000) -dsimp only [↓gp, gq, reduceCtorEq, Nat.reduceEqDiff, Nat.reduceLT, Nat.reduceLeDiff, Nat.reduceAdd, Nat.reduceMul, Nat.reduceSub, Nat.reduceBEq, Int.reduceToNat, Int.reduceLE, Int.reduceLT, Int.reduceNeg, Nat.reduceMod, sid_ne1, sid_ne2, sid_inj, sid_mod, gT, TK.isInt, TK.agg, Array.toList]
  refine ⟨fun hc => ?_, fun hc => ?_⟩
  · rw [misL_no (by simpa using hc)]; rfl
  · have hc : isCx n xs = true := by simpa using hc
    obtain ⟨h1, h6, _⟩ := isCx_iff.1 hc
    have hx := cx_ok hc
    obtain ⟨m, rfl⟩ : ∃ m : Nat, n = m := ⟨n.toNat, by omega⟩
    have h64 := two_pow_le (m := m) (by omega)
    refine ⟨by kernel_rfl, askK_of (c_impl_facesIn _ xs hx) ?_⟩
    simp (maxSteps := 5000000) -dsimp only [↓gp, gq, reduceCtorEq, Nat.reduceEqDiff, Nat.reduceLT, Nat.reduceLeDiff, Nat.reduceAdd, Nat.reduceMul, Nat.reduceSub, Nat.reduceBEq, Int.reduceToNat, Int.reduceLE, Int.reduceLT, Int.reduceNeg, Nat.reduceMod, sid_ne1, sid_ne2, sid_inj, sid_mod, gT, TK.isInt, TK.agg, Array.toList]
    have hm := maskF_lt (faceB xs) 64
    refine askK_of (c_impl_missingIn m _ (by omega) (by omega)) ?_
    have e : (fun s => decide (s < 2 ^ m) && !(maskF (faceB xs) 64).testBit s) = misF m xs := funext fun s => by
      unfold misF
      rw [hc, maskF_bit, Bool.true_and]
      unfold inSet
      by_cases hs : s < 2 ^ m
      · have h2 : s < 64 := by omega
        have h3 : decide (0 ≤ (m : Int) ∧ (m : Int) ≤ 6 ∧ 0 ≤ (s : Int) ∧ (s : Int) < 2 ^ (m : Int).toNat) = true := decide_eq_true ⟨by omega, by omega, by omega, by rw [Int.toNat_natCast]; exact_mod_cast hs⟩
        rw [h3]; simp [hs, h2]
      · have h3 : decide (0 ≤ (m : Int) ∧ (m : Int) ≤ 6 ∧ 0 ≤ (s : Int) ∧ (s : Int) < 2 ^ (m : Int).toNat) = false := decide_eq_false fun h => hs (by have := h.2.2.2; rw [Int.toNat_natCast] at this; exact_mod_cast this)
        rw [h3]; simp [hs]
    rw [e]
    simp (maxSteps := 5000000) -dsimp only [↓gp, gq, reduceCtorEq, Nat.reduceEqDiff, Nat.reduceLT, Nat.reduceLeDiff, Nat.reduceAdd, Nat.reduceMul, Nat.reduceSub, Nat.reduceBEq, Int.reduceToNat, Int.reduceLE, Int.reduceLT, Int.reduceNeg, Nat.reduceMod, sid_ne1, sid_ne2, sid_inj, sid_mod, gT, TK.isInt, TK.agg, Array.toList]
    rfl
end Go.Proofs.Ytlapkhmehcnjeaa

namespace Go.Proofs.Ytlapkhmehcnjeaa
open Go.Abs
set_option linter.unusedSimpArgs false
set_option linter.unusedVariables false

theorem setTI_size (s : Int) : (setTI s).size ≤ 6 := by
  unfold setTI setTx
  split
  · split
    · show 1 ≤ 6; omega
    · exact txP_size _ _
  · show 0 ≤ 6; omega
theorem joinP_size {l : List ByteArray} {sep : ByteArray} (h : ∀ i, i < l.length → (l.getD i ⟨#[]⟩).size ≤ 6) (hs : sep.size ≤ 1) : ∀ i, i ≤ l.length → (joinP l sep i).size ≤ 7 * i := by
  intro i
  induction i with
  | zero => intro _; exact Nat.le_refl _
  | succ i ih =>
    intro hi
    have h1 := ih (by omega)
    have h2 := h i (by omega)
    unfold joinP
    rw [ByteArray.size_append]
    split
    · omega
    · rw [ByteArray.size_append]; omega
theorem lib_join_snoc (sep : List UInt8) : ∀ (xs : List (List UInt8)) (x : List UInt8), xs ≠ [] → Go.Lib.join (xs ++ [x]) sep = Go.Lib.join xs sep ++ sep ++ x := by
  intro xs x h
  cases xs with
  | nil => exact absurd rfl h
  | cons y r =>
    rw [List.cons_append, Go.Lib.join_cons, Go.Lib.join_cons]
    simp [Go.Lib.joinTail]
theorem joinP_eq (l : List ByteArray) (sep : ByteArray) : ∀ i, i ≤ l.length → joinP l sep i = joinB (l.take i) sep := by
  intro i
  induction i with
  | zero => intro _; rfl
  | succ i ih =>
    intro hi
    have hi : i < l.length := by omega
    rw [joinP, ih (by omega), take_snoc ⟨#[]⟩ hi]
    unfold joinB
    rw [List.map_append, List.map_cons, List.map_nil]
    by_cases h0 : i = 0
    · subst h0
      rw [if_pos rfl]
      refine ByteArray.ext ?_
      simp [Go.Lib.join_nil, Go.Lib.join_one]
    · rw [if_neg h0, lib_join_snoc _ _ _ (by intro e; have := congrArg List.length e; rw [List.length_map, List.length_take, List.length_nil] at this; omega)]
      refine ByteArray.ext ?_
      simp
def setsTx (l : List Int) : ByteArray := joinB (l.map setTI) ⟨#[44]⟩
theorem c_spec_SetsText (l : List Int) (hN : l.length ≤ 500) : AC Try.prog 59 [ints l] (.im (str (setsTx l))) := by
  refine AC.go (rs := [.tmp 2]) T_ok mixed Try.func59 rfl rfl rfl (by kernel_rfl) fun hl => ?_
  simp (maxSteps := 5000000) -dsimp only [↓gp, gq, reduceCtorEq, Nat.reduceEqDiff, Nat.reduceLT, Nat.reduceLeDiff, Nat.reduceAdd, Nat.reduceMul, Nat.reduceSub, Nat.reduceBEq, Int.reduceToNat, Int.reduceLE, Int.reduceLT, Int.reduceNeg, Nat.reduceMod, sid_ne1, sid_ne2, sid_inj, sid_mod, gT, TK.isInt, TK.agg, Array.toList]
  refine loop_of (fun (za : Nat × Nat) s => match za with | (k, v) => s.sl 0 = ints l ∧ s.sl 3 = .own 5 v ∧ s.rw 5 = ⟨v, .sli 9 1 false (sL ((l.take k).map setTI))⟩ ∧ s.sl 4 = int k ∧ (k ≤ l.length)) (fun (k, v) => l.length - k) ((0, 1)) (by refine ⟨?_, ?_, ?_, ?_, by omega⟩ <;> (first | (simp (maxSteps := 5000000) -dsimp only [gr, Nat.reduceEqDiff, Nat.reduceLT, Nat.reduceAdd, Nat.reduceMod, Nat.reduceBEq, sid_mod, sid_ne1, sid_ne2, sid_inj]; first | done | rfl | (simp; done)) | assumption | rfl)) ?_
  intro (k, v) sa ⟨h0a, h3a, r5a, h4a, hIa⟩
  simp (maxSteps := 5000000) -dsimp only [↓gp, gq, reduceCtorEq, Nat.reduceEqDiff, Nat.reduceLT, Nat.reduceLeDiff, Nat.reduceAdd, Nat.reduceMul, Nat.reduceSub, Nat.reduceBEq, Int.reduceToNat, Int.reduceLE, Int.reduceLT, Int.reduceNeg, Nat.reduceMod, sid_ne1, sid_ne2, sid_inj, sid_mod, gT, TK.isInt, TK.agg, Array.toList, h0a, h3a, r5a, h4a]
  refine ⟨fun h => ⟨h, h, askK_of (c_spec_SetText _) ?_⟩, fun h => ?_⟩
  · simp (maxSteps := 5000000) -dsimp only [↓gp, gq, reduceCtorEq, Nat.reduceEqDiff, Nat.reduceLT, Nat.reduceLeDiff, Nat.reduceAdd, Nat.reduceMul, Nat.reduceSub, Nat.reduceBEq, Int.reduceToNat, Int.reduceLE, Int.reduceLT, Int.reduceNeg, Nat.reduceMod, sid_ne1, sid_ne2, sid_inj, sid_mod, gT, TK.isInt, TK.agg, Array.toList, h0a, h3a, r5a, h4a]
    have e : (l.take (k + 1)).map setTI = (l.take k).map setTI ++ [setTI (l.getD k 0)] := by rw [take_snoc 0 h]; simp
    refine ⟨by rw [List.length_map, List.length_take]; omega, again_of ((k + 1, v + 1)) (by refine ⟨?_, ?_, ?_, ?_, by dsimp only; omega⟩ <;> (first | (simp (maxSteps := 5000000) -dsimp only [gr, Nat.reduceEqDiff, Nat.reduceLT, Nat.reduceAdd, Nat.reduceMod, Nat.reduceBEq, sid_mod, sid_ne1, sid_ne2, sid_inj, h0a, h3a, r5a, h4a, wrap_nat h (show l.length ≤ 9223372036854775807 by omega), e]; first | done | rfl | (simp; done)) | assumption | rfl)) (by first | omega | (simp only; omega) | (dsimp only; omega) | (show _ < _; simp; omega))⟩
  · have ht : l.take k = l := List.take_of_length_le (by omega)
    rw [ht]
    have hjs := joinP_size (l := l.map setTI) (sep := ⟨#[44]⟩) (fun i hi => by
      have hi : i < l.length := by simpa using hi
      have : (l.map setTI).getD i ⟨#[]⟩ = setTI l[i] := by simp [List.getD, hi]
      rw [this]; exact setTI_size _) (Nat.le_refl 1)
    refine askK_of (c_spec_Join (l.map setTI) ⟨#[44]⟩ (by rw [List.length_map]; omega) (fun i hi => ?_)) ?_
    · have := hjs i hi
      rw [List.length_map] at hi
      have h1 : (⟨#[44]⟩ : ByteArray).size = 1 := rfl
      omega
    · have e := joinP_eq (l.map setTI) ⟨#[44]⟩ (l.map setTI).length (Nat.le_refl _)
      rw [List.take_length] at e
      rw [e]
      simp (maxSteps := 5000000) -dsimp only [↓gp, gq, reduceCtorEq, Nat.reduceEqDiff, Nat.reduceLT, Nat.reduceLeDiff, Nat.reduceAdd, Nat.reduceMul, Nat.reduceSub, Nat.reduceBEq, Int.reduceToNat, Int.reduceLE, Int.reduceLT, Int.reduceNeg, Nat.reduceMod, sid_ne1, sid_ne2, sid_inj, sid_mod, gT, TK.isInt, TK.agg, Array.toList, h0a, h3a, r5a, h4a]
      rfl
end Go.Proofs.Ytlapkhmehcnjeaa

namespace Go.Proofs.Ytlapkhmehcnjeaa
open Go.Abs Go.Shelf
set_option linter.unusedSimpArgs false
set_option linter.unusedVariables false

def ren156 : Go.Shelf.Ren where
  f := fun x => match x with | 156 => 94 | 165 => 125 | 166 => 126 | 169 => 127 | 240 => 141 | 241 => 142 | 276 => 148 | 277 => 149 | n => n
  t := fun x => match x with | 31 => 85 | 9 => 9 | 3 => 3 | 4 => 4 | 0 => 0 | 20 => 20 | 72 => 109 | 76 => 113 | 70 => 107 | 37 => 103 | 75 => 112 | 127 => 125 | 164 => 127 | 5 => 5 | 80 => 115 | n => n
  g := fun x => x
theorem lays156 : Lays.n156 Try.prog ren156 where
  mixed := mixed
  f156 := (show Try.prog.funcs[94]? = some _ from Try.func94).trans (congrArg some (by kernel_rfl))
  f165 := (show Try.prog.funcs[125]? = some _ from Try.func125).trans (congrArg some (by kernel_rfl))
  f166 := (show Try.prog.funcs[126]? = some _ from Try.func126).trans (congrArg some (by kernel_rfl))
  f169 := (show Try.prog.funcs[127]? = some _ from Try.func127).trans (congrArg some (by kernel_rfl))
  f240 := (show Try.prog.funcs[141]? = some _ from Try.func141).trans (congrArg some (by kernel_rfl))
  f241 := (show Try.prog.funcs[142]? = some _ from Try.func142).trans (congrArg some (by kernel_rfl))
  f276 := (show Try.prog.funcs[148]? = some _ from Try.func148).trans (congrArg some (by kernel_rfl))
  f277 := (show Try.prog.funcs[149]? = some _ from Try.func149).trans (congrArg some (by kernel_rfl))
  t0 := Try.underlying0
  a0 := Try.isAgg0
  z0 := Try.sizeOf0
  v0 := Try.zeroValue0
  t3 := Try.underlying3
  a3 := Try.isAgg3
  z3 := Try.sizeOf3
  v3 := Try.zeroValue3
  t4 := Try.underlying4
  a4 := Try.isAgg4
  z4 := Try.sizeOf4
  v4 := Try.zeroValue4
  t9 := Try.underlying9
  a9 := Try.isAgg9
  z9 := Try.sizeOf9
  v9 := Try.zeroValue9
  t20 := Try.underlying20
  a20 := Try.isAgg20
  z20 := Try.sizeOf20
  v20 := Try.zeroValue20
  t31 := Try.underlying85
  a31 := Try.isAgg85
  z31 := Try.sizeOf85
  v31 := Try.zeroValue85
  t37 := Try.underlying103
  a37 := Try.isAgg103
  z37 := Try.sizeOf103
  v37 := Try.zeroValue103
  t70 := Try.underlying107
  a70 := Try.isAgg107
  z70 := Try.sizeOf107
  v70 := Try.zeroValue107
  t72 := Try.underlying109
  a72 := Try.isAgg109
  z72 := Try.sizeOf109
  v72 := Try.zeroValue109
  t75 := Try.underlying112
  a75 := Try.isAgg112
  z75 := Try.sizeOf112
  v75 := Try.zeroValue112
  t76 := Try.underlying113
  a76 := Try.isAgg113
  z76 := Try.sizeOf113
  v76 := Try.zeroValue113
  t127 := Try.underlying125
  a127 := Try.isAgg125
  z127 := Try.sizeOf125
  v127 := Try.zeroValue125
  t164 := Try.underlying127
  a164 := Try.isAgg127
  z164 := Try.sizeOf127
  v164 := Try.zeroValue127
theorem extra156 : Builder.Extra Try.prog ren156 where
  sizeBuilder := by kernel_rfl
  liesBuilder := by kernel_rfl
  t5 := Try.underlying5
  a5 := Try.isAgg5
  z5 := Try.sizeOf5
  v5 := Try.zeroValue5
  infoByte := by kernel_rfl
  cellsByte := by kernel_rfl
  sizeByte := by kernel_rfl
  neB5 := by decide
theorem c_strings_Join (l : List ByteArray) (sep : ByteArray) (hN : l.length ≤ 140737488355328) (hlen : (joinB l sep).size ≤ 140737488355328) : AC Try.prog 94 [.sl false 1 (sL l), str sep] (.im (str (joinB l sep))) :=
  join_AC lays156 extra156 ⟨_, Try.func94, by kernel_rfl, by kernel_rfl⟩ l sep hN hlen
theorem c_impl_SetsText (l : List Int) (hN : l.length ≤ 500) : AC Try.prog 63 [ints l] (.im (str (setsTx l))) := by
  refine AC.go (rs := [.tmp 2]) T_ok mixed Try.func63 rfl rfl rfl (by kernel_rfl) fun hl => ?_
  simp (maxSteps := 5000000) -dsimp only [↓gp, gq, reduceCtorEq, Nat.reduceEqDiff, Nat.reduceLT, Nat.reduceLeDiff, Nat.reduceAdd, Nat.reduceMul, Nat.reduceSub, Nat.reduceBEq, Int.reduceToNat, Int.reduceLE, Int.reduceLT, Int.reduceNeg, Nat.reduceMod, sid_ne1, sid_ne2, sid_inj, sid_mod, gT, TK.isInt, TK.agg, Array.toList]
  refine ⟨by omega, by omega, ?_⟩
  have hz : sL ((l.take 0).map setTI) = [] := rfl
  refine loop_of (fun (za : Nat × Nat) s => match za with | (k, v) => s.sl 3 = .own 8 v ∧ s.rw 8 = ⟨v, .sli 9 1 false (sL ((l.take k).map setTI))⟩ ∧ s.sl 9 = ints l ∧ s.sl 10 = int l.length ∧ s.sl 11 = int k ∧ (k ≤ l.length)) (fun (k, v) => l.length - k) ((0, 1)) (by refine ⟨?_, ?_, ?_, ?_, ?_, by omega⟩ <;> (first | (simp (maxSteps := 5000000) -dsimp only [gr, Nat.reduceEqDiff, Nat.reduceLT, Nat.reduceAdd, Nat.reduceMod, Nat.reduceBEq, sid_mod, sid_ne1, sid_ne2, sid_inj, hz, List.replicate]; first | done | rfl | (simp; done)) | assumption | rfl)) ?_
  intro (k, v) sa ⟨h3a, r8a, h9a, h10a, h11a, hIa⟩
  simp (maxSteps := 5000000) -dsimp only [↓gp, gq, reduceCtorEq, Nat.reduceEqDiff, Nat.reduceLT, Nat.reduceLeDiff, Nat.reduceAdd, Nat.reduceMul, Nat.reduceSub, Nat.reduceBEq, Int.reduceToNat, Int.reduceLE, Int.reduceLT, Int.reduceNeg, Nat.reduceMod, sid_ne1, sid_ne2, sid_inj, sid_mod, gT, TK.isInt, TK.agg, Array.toList, h3a, r8a, h9a, h10a, h11a]
  refine ⟨fun h => ⟨h, h, askK_of (c_impl_SetText _) ?_⟩, fun h => ?_⟩
  · simp (maxSteps := 5000000) -dsimp only [↓gp, gq, reduceCtorEq, Nat.reduceEqDiff, Nat.reduceLT, Nat.reduceLeDiff, Nat.reduceAdd, Nat.reduceMul, Nat.reduceSub, Nat.reduceBEq, Int.reduceToNat, Int.reduceLE, Int.reduceLT, Int.reduceNeg, Nat.reduceMod, sid_ne1, sid_ne2, sid_inj, sid_mod, gT, TK.isInt, TK.agg, Array.toList, h3a, r8a, h9a, h10a, h11a]
    have e : (l.take (k + 1)).map setTI = (l.take k).map setTI ++ [setTI (l.getD k 0)] := by rw [take_snoc 0 h]; simp
    refine ⟨by rw [List.length_map, List.length_take]; omega, again_of ((k + 1, v + 1)) (by refine ⟨?_, ?_, ?_, ?_, ?_, by dsimp only; omega⟩ <;> (first | (simp (maxSteps := 5000000) -dsimp only [gr, Nat.reduceEqDiff, Nat.reduceLT, Nat.reduceAdd, Nat.reduceMod, Nat.reduceBEq, sid_mod, sid_ne1, sid_ne2, sid_inj, h3a, r8a, h9a, h10a, h11a, wrap_nat h (show l.length ≤ 9223372036854775807 by omega), e]; first | done | rfl | (simp; done)) | assumption | rfl)) (by first | omega | (simp only; omega) | (dsimp only; omega) | (show _ < _; simp; omega))⟩
  · have ht : l.take k = l := List.take_of_length_le (by omega)
    rw [ht]
    have hjs := joinP_size (l := l.map setTI) (sep := ⟨#[44]⟩) (fun i hi => by
      have hi : i < l.length := by simpa using hi
      have : (l.map setTI).getD i ⟨#[]⟩ = setTI l[i] := by simp [List.getD, hi]
      rw [this]; exact setTI_size _) (Nat.le_refl 1) (l.map setTI).length (Nat.le_refl _)
    rw [joinP_eq _ _ _ (Nat.le_refl _), List.take_length, List.length_map] at hjs
    refine askK_of (c_strings_Join (l.map setTI) ⟨#[44]⟩ (by rw [List.length_map]; omega) (by omega)) ?_
    simp (maxSteps := 5000000) -dsimp only [↓gp, gq, reduceCtorEq, Nat.reduceEqDiff, Nat.reduceLT, Nat.reduceLeDiff, Nat.reduceAdd, Nat.reduceMul, Nat.reduceSub, Nat.reduceBEq, Int.reduceToNat, Int.reduceLE, Int.reduceLT, Int.reduceNeg, Nat.reduceMod, sid_ne1, sid_ne2, sid_inj, sid_mod, gT, TK.isInt, TK.agg, Array.toList, h3a, r8a, h9a, h10a, h11a]
    rfl
def misTx (l : List Int) : ByteArray := if l.length = 0 then ⟨#[110, 111, 110, 101]⟩ else setsTx l
noncomputable def misO (n : Int) (xs : List Int) : ByteArray := if isCx n xs = true then misTx (ofN (misL n xs)) else ⟨#[]⟩
theorem c_spec_MissingText (n : Int) (xs : List Int) : AC Try.prog 20 [.ag [int n, ints xs]] (.im (str (misO n xs))) := by
  refine AC.go (rs := [.tmp 2]) T_ok mixed Try.func20 rfl rfl rfl (by kernel_rfl) fun hl => ?_
  simp (maxSteps := 5000000) -dsimp only [↓gp, gq, reduceCtorEq, Nat.reduceEqDiff, Nat.reduceLT, Nat.reduceLeDiff, Nat.reduceAdd, Nat.reduceMul, Nat.reduceSub, Nat.reduceBEq, Int.reduceToNat, Int.reduceLE, Int.reduceLT, Int.reduceNeg, Nat.reduceMod, sid_ne1, sid_ne2, sid_inj, sid_mod, gT, TK.isInt, TK.agg, Array.toList]
  refine askK_of (c_spec_IsComplex n xs) ?_
  simp (maxSteps := 5000000) -dsimp only [↓gp, gq, reduceCtorEq, Nat.reduceEqDiff, Nat.reduceLT, Nat.reduceLeDiff, Nat.reduceAdd, Nat.reduceMul, Nat.reduceSub, Nat.reduceBEq, Int.reduceToNat, Int.reduceLE, Int.reduceLT, Int.reduceNeg, Nat.reduceMod, sid_ne1, sid_ne2, sid_inj, sid_mod, gT, TK.isInt, TK.agg, Array.toList]
  unfold misO
  refine ⟨fun hc => ?_, fun hc => askK_of (c_spec_MissingSets n xs) ?_⟩
  · have hc : isCx n xs = false := by simpa using hc
    rw [if_neg (by rw [hc]; decide)]
  · have hc : isCx n xs = true := by simpa using hc
    rw [if_pos hc]
    have hml := misL_len n xs
    have hol := ofN_length (misL n xs)
    generalize ofN (misL n xs) = l at *
    unfold misTx
    simp (maxSteps := 5000000) -dsimp only [↓gp, gq, reduceCtorEq, Nat.reduceEqDiff, Nat.reduceLT, Nat.reduceLeDiff, Nat.reduceAdd, Nat.reduceMul, Nat.reduceSub, Nat.reduceBEq, Int.reduceToNat, Int.reduceLE, Int.reduceLT, Int.reduceNeg, Nat.reduceMod, sid_ne1, sid_ne2, sid_inj, sid_mod, gT, TK.isInt, TK.agg, Array.toList]
    refine ⟨fun h0 => ?_, fun h0 => askK_of (c_spec_SetsText l (by omega)) ?_⟩
    · rw [if_pos (by have : (l.length : Int) = 0 := by simpa using h0
                     omega)]
    · rw [if_neg (by intro e; rw [e] at h0; simp at h0)]
      simp (maxSteps := 5000000) -dsimp only [↓gp, gq, reduceCtorEq, Nat.reduceEqDiff, Nat.reduceLT, Nat.reduceLeDiff, Nat.reduceAdd, Nat.reduceMul, Nat.reduceSub, Nat.reduceBEq, Int.reduceToNat, Int.reduceLE, Int.reduceLT, Int.reduceNeg, Nat.reduceMod, sid_ne1, sid_ne2, sid_inj, sid_mod, gT, TK.isInt, TK.agg, Array.toList]
theorem c_impl_MissingText (n : Int) (xs : List Int) : AC Try.prog 22 [.ag [int n, ints xs]] (.im (str (misO n xs))) := by
  refine AC.go (rs := [.tmp 2]) T_ok mixed Try.func22 rfl rfl rfl (by kernel_rfl) fun hl => ?_
  simp (maxSteps := 5000000) -dsimp only [↓gp, gq, reduceCtorEq, Nat.reduceEqDiff, Nat.reduceLT, Nat.reduceLeDiff, Nat.reduceAdd, Nat.reduceMul, Nat.reduceSub, Nat.reduceBEq, Int.reduceToNat, Int.reduceLE, Int.reduceLT, Int.reduceNeg, Nat.reduceMod, sid_ne1, sid_ne2, sid_inj, sid_mod, gT, TK.isInt, TK.agg, Array.toList]
  refine askK_of (c_impl_IsComplex n xs) ?_
  simp (maxSteps := 5000000) -dsimp only [↓gp, gq, reduceCtorEq, Nat.reduceEqDiff, Nat.reduceLT, Nat.reduceLeDiff, Nat.reduceAdd, Nat.reduceMul, Nat.reduceSub, Nat.reduceBEq, Int.reduceToNat, Int.reduceLE, Int.reduceLT, Int.reduceNeg, Nat.reduceMod, sid_ne1, sid_ne2, sid_inj, sid_mod, gT, TK.isInt, TK.agg, Array.toList]
  unfold misO
  refine ⟨fun hc => ?_, fun hc => askK_of (c_impl_MissingSets n xs) ?_⟩
  · have hc : isCx n xs = false := by simpa using hc
    rw [if_neg (by rw [hc]; decide)]
  · have hc : isCx n xs = true := by simpa using hc
    rw [if_pos hc]
    have hml := misL_len n xs
    have hol := ofN_length (misL n xs)
    generalize ofN (misL n xs) = l at *
    unfold misTx
    simp (maxSteps := 5000000) -dsimp only [↓gp, gq, reduceCtorEq, Nat.reduceEqDiff, Nat.reduceLT, Nat.reduceLeDiff, Nat.reduceAdd, Nat.reduceMul, Nat.reduceSub, Nat.reduceBEq, Int.reduceToNat, Int.reduceLE, Int.reduceLT, Int.reduceNeg, Nat.reduceMod, sid_ne1, sid_ne2, sid_inj, sid_mod, gT, TK.isInt, TK.agg, Array.toList]
    refine ⟨fun h0 => ?_, fun h0 => askK_of (c_impl_SetsText l (by omega)) ?_⟩
    · rw [if_pos (by have : (l.length : Int) = 0 := by simpa using h0
                     omega)]
    · rw [if_neg (by intro e; rw [e] at h0; simp at h0)]
      simp (maxSteps := 5000000) -dsimp only [↓gp, gq, reduceCtorEq, Nat.reduceEqDiff, Nat.reduceLT, Nat.reduceLeDiff, Nat.reduceAdd, Nat.reduceMul, Nat.reduceSub, Nat.reduceBEq, Int.reduceToNat, Int.reduceLE, Int.reduceLT, Int.reduceNeg, Nat.reduceMod, sid_ne1, sid_ne2, sid_inj, sid_mod, gT, TK.isInt, TK.agg, Array.toList]
end Go.Proofs.Ytlapkhmehcnjeaa
