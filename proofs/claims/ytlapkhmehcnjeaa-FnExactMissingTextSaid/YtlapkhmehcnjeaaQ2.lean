/- DERIVED by an AI agent. -/
import Derived.Test.YtlapkhmehcnjeaaQ1
import Derived.Test.YtlapkhmehcnjeaaP1
import Derived.Test.YtlapkhmehcnjeaaA12
namespace Go.Proofs.Ytlapkhmehcnjeaa
open Go.Abs
set_option linter.unusedSimpArgs false
set_option linter.unusedVariables false

theorem c_impl_IsComplex (n : Int) (xs : List Int) : AC Try.prog 61 [.ag [int n, ints xs]] (.im (bool (isCx n xs))) := by
  refine AC.go (rs := [.tmp 2]) T_ok mixed Try.func61 rfl rfl rfl (by kernel_rfl) fun hl => ?_
  simp (maxSteps := 5000000) -dsimp only [↓gp, gq, reduceCtorEq, Nat.reduceEqDiff, Nat.reduceLT, Nat.reduceLeDiff, Nat.reduceAdd, Nat.reduceMul, Nat.reduceSub, Nat.reduceBEq, Int.reduceToNat, Int.reduceLE, Int.reduceLT, Int.reduceNeg, Nat.reduceMod, sid_ne1, sid_ne2, sid_inj, sid_mod, gT, TK.isInt, TK.agg, Array.toList]
  refine askK_of (c_impl_isAntichain n xs) ?_
  simp (maxSteps := 5000000) -dsimp only [↓gp, gq, reduceCtorEq, Nat.reduceEqDiff, Nat.reduceLT, Nat.reduceLeDiff, Nat.reduceAdd, Nat.reduceMul, Nat.reduceSub, Nat.reduceBEq, Int.reduceToNat, Int.reduceLE, Int.reduceLT, Int.reduceNeg, Nat.reduceMod, sid_ne1, sid_ne2, sid_inj, sid_mod, gT, TK.isInt, TK.agg, Array.toList]
theorem u8_eq {a b : Nat} : ((a : Int) == (b : Int)) = decide (a = b) := by
  rw [Bool.eq_iff_iff, beq_iff_eq, decide_eq_true_eq]; omega
theorem c_impl_SplitByte (t : ByteArray) (b : Nat) (ht : t.size ≤ 1000) : AC Try.prog 117 [str t, .v (.int .u8 b)] (.fr 9 1 (sL (splitB t b))) := by
  refine AC.go (rs := [.tmp 4]) T_ok mixed Try.func117 rfl rfl rfl (by kernel_rfl) fun hl => ?_
  simp (maxSteps := 5000000) -dsimp only [↓gp, gq, reduceCtorEq, Nat.reduceEqDiff, Nat.reduceLT, Nat.reduceLeDiff, Nat.reduceAdd, Nat.reduceMul, Nat.reduceSub, Nat.reduceBEq, Int.reduceToNat, Int.reduceLE, Int.reduceLT, Int.reduceNeg, Nat.reduceMod, sid_ne1, sid_ne2, sid_inj, sid_mod, gT, TK.isInt, TK.agg, Array.toList]
  refine loop_of (fun (za : Nat × Nat) s => match za with | (i, v) => s.sl 0 = str t ∧ s.sl 1 = .v (.int .u8 b) ∧ s.sl 5 = .own 5 v ∧ s.rw 5 = ⟨v, .sli 9 1 false (sL (spSt t b i).1)⟩ ∧ s.sl 6 = int (spSt t b i).2 ∧ s.sl 7 = int i ∧ (i ≤ t.size)) (fun (i, v) => t.size - i) ((0, 1)) (by refine ⟨?_, ?_, ?_, ?_, ?_, ?_, by simp⟩ <;> (first | (simp (maxSteps := 5000000) -dsimp only [gr, Nat.reduceEqDiff, Nat.reduceLT, Nat.reduceAdd, Nat.reduceMod, Nat.reduceBEq, sid_mod, sid_ne1, sid_ne2, sid_inj]; first | done | rfl | (simp; done)) | assumption | rfl)) ?_
  intro (i, v) sa ⟨h0a, h1a, h5a, r5a, h6a, h7a, hIa⟩
  have hle := spSt_le t b i
  simp (maxSteps := 5000000) -dsimp only [↓gp, gq, reduceCtorEq, Nat.reduceEqDiff, Nat.reduceLT, Nat.reduceLeDiff, Nat.reduceAdd, Nat.reduceMul, Nat.reduceSub, Nat.reduceBEq, Int.reduceToNat, Int.reduceLE, Int.reduceLT, Int.reduceNeg, Nat.reduceMod, sid_ne1, sid_ne2, sid_inj, sid_mod, gT, TK.isInt, TK.agg, Array.toList, h0a, h1a, h5a, r5a, h6a, h7a, sL_length]
  refine ⟨fun h => ⟨h, fun he => ⟨hle.1, by omega, by omega, ?_⟩, fun he => ?_⟩, fun h => ⟨by omega, by omega, ?_⟩⟩
  · have he : byt t i = b := by have := beq_iff_eq.1 he; unfold byt; omega
    exact again_of ((i + 1, v + 1)) (by refine ⟨?_, ?_, ?_, ?_, ?_, ?_, by omega⟩ <;> (first | (simp (maxSteps := 5000000) -dsimp only [gr, Nat.reduceEqDiff, Nat.reduceLT, Nat.reduceAdd, Nat.reduceMod, Nat.reduceBEq, sid_mod, sid_ne1, sid_ne2, sid_inj, h0a, h1a, h5a, r5a, h6a, h7a, wrap_nat h (by omega), spSt_yes he, sL_snoc]; first | done | rfl | (simp; done)) | assumption | rfl)) (by first | omega | (simp only; omega) | (dsimp only; omega) | (show _ < _; simp; omega))
  · have he : ¬ byt t i = b := by have := beq_eq_false_iff_ne.1 he; unfold byt; omega
    exact again_of ((i + 1, v)) (by refine ⟨?_, ?_, ?_, ?_, ?_, ?_, by omega⟩ <;> (first | (simp (maxSteps := 5000000) -dsimp only [gr, Nat.reduceEqDiff, Nat.reduceLT, Nat.reduceAdd, Nat.reduceMod, Nat.reduceBEq, sid_mod, sid_ne1, sid_ne2, sid_inj, h0a, h1a, h5a, r5a, h6a, h7a, wrap_nat h (by omega), spSt_no he]; first | done | rfl | (simp; done)) | assumption | rfl)) (by first | omega | (simp only; omega) | (dsimp only; omega) | (show _ < _; simp; omega))
  · obtain rfl : i = t.size := by omega
    rfl
theorem c_spec_SplitByte (t : ByteArray) (b : Nat) (ht : t.size ≤ 1000) : AC Try.prog 113 [str t, .v (.int .u8 b)] (.fr 9 1 (sL (splitB t b))) := by
  refine AC.go (rs := [.tmp 4]) T_ok mixed Try.func113 rfl rfl rfl (by kernel_rfl) fun hl => ?_
  simp (maxSteps := 5000000) -dsimp only [↓gp, gq, reduceCtorEq, Nat.reduceEqDiff, Nat.reduceLT, Nat.reduceLeDiff, Nat.reduceAdd, Nat.reduceMul, Nat.reduceSub, Nat.reduceBEq, Int.reduceToNat, Int.reduceLE, Int.reduceLT, Int.reduceNeg, Nat.reduceMod, sid_ne1, sid_ne2, sid_inj, sid_mod, gT, TK.isInt, TK.agg, Array.toList]
  refine loop_of (fun (za : Nat × Nat × List ByteArray × Nat) s => match za with | (i, v, out, st) => s.sl 0 = str t ∧ s.sl 1 = .v (.int .u8 b) ∧ s.sl 5 = .own 8 v ∧ s.rw 8 = ⟨v, .sli 9 1 false (sL out)⟩ ∧ s.sl 6 = int st ∧ s.sl 7 = int i ∧ (i ≤ t.size + 1 ∧ (i ≤ t.size → out = (spSt t b i).1 ∧ st = (spSt t b i).2) ∧ (t.size < i → out = splitB t b))) (fun (i, v, out, st) => t.size + 1 - i) ((0, 1, [], 0)) (by refine ⟨?_, ?_, ?_, ?_, ?_, ?_, ⟨by simp, by simp [spSt], by simp⟩⟩ <;> (first | (simp (maxSteps := 5000000) -dsimp only [gr, Nat.reduceEqDiff, Nat.reduceLT, Nat.reduceAdd, Nat.reduceMod, Nat.reduceBEq, sid_mod, sid_ne1, sid_ne2, sid_inj]; first | done | rfl | (simp; done)) | assumption | rfl)) ?_
  intro (i, v, out, st) sa ⟨h0a, h1a, h5a, r8a, h6a, h7a, hIa⟩
  obtain ⟨hi, h1, h2⟩ := hIa
  have hle := spSt_le t b i
  simp (maxSteps := 5000000) -dsimp only [↓gp, gq, reduceCtorEq, Nat.reduceEqDiff, Nat.reduceLT, Nat.reduceLeDiff, Nat.reduceAdd, Nat.reduceMul, Nat.reduceSub, Nat.reduceBEq, Int.reduceToNat, Int.reduceLE, Int.reduceLT, Int.reduceNeg, Nat.reduceMod, sid_ne1, sid_ne2, sid_inj, sid_mod, gT, TK.isInt, TK.agg, Array.toList, h0a, h1a, h5a, r8a, h6a, h7a, sL_length]
  refine ⟨fun h => ?_, fun h => by rw [h2 (by omega)]⟩
  obtain ⟨rfl, rfl⟩ := h1 h
  refine ⟨fun hne => ?_, fun he => ?_⟩
  · have hne := beq_eq_false_iff_ne.1 hne
    have hlt : i < t.size := by omega
    refine ⟨hlt, fun he => ⟨hle.1, by omega, by omega, ?_⟩, fun he => ?_⟩
    · have he : byt t i = b := by have := beq_iff_eq.1 he; unfold byt; omega
      exact again_of ((i + 1, v + 1, (spSt t b (i + 1)).1, (spSt t b (i + 1)).2)) (by refine ⟨?_, ?_, ?_, ?_, ?_, ?_, ⟨by omega, fun _ => ⟨by rw [spSt_yes he], by rw [spSt_yes he]⟩, by omega⟩⟩ <;> (first | (simp (maxSteps := 5000000) -dsimp only [gr, Nat.reduceEqDiff, Nat.reduceLT, Nat.reduceAdd, Nat.reduceMod, Nat.reduceBEq, sid_mod, sid_ne1, sid_ne2, sid_inj, h0a, h1a, h5a, r8a, h6a, h7a, wrap_nat hlt (by omega), spSt_yes he, sL_snoc]; first | done | rfl | (simp; done)) | assumption | rfl)) (by first | omega | (simp only; omega) | (dsimp only; omega) | (show _ < _; simp; omega))
    · have he : ¬ byt t i = b := by have := beq_eq_false_iff_ne.1 he; unfold byt; omega
      exact again_of ((i + 1, v, (spSt t b i).1, (spSt t b i).2)) (by refine ⟨?_, ?_, ?_, ?_, ?_, ?_, ⟨by omega, fun _ => ⟨by rw [spSt_no he], by rw [spSt_no he]⟩, by omega⟩⟩ <;> (first | (simp (maxSteps := 5000000) -dsimp only [gr, Nat.reduceEqDiff, Nat.reduceLT, Nat.reduceAdd, Nat.reduceMod, Nat.reduceBEq, sid_mod, sid_ne1, sid_ne2, sid_inj, h0a, h1a, h5a, r8a, h6a, h7a, wrap_nat hlt (by omega)]; first | done | rfl | (simp; done)) | assumption | rfl)) (by first | omega | (simp only; omega) | (dsimp only; omega) | (show _ < _; simp; omega))
  · have he := beq_iff_eq.1 he
    obtain rfl : i = t.size := by omega
    refine ⟨hle.1, by omega, by omega, ?_⟩
    have hw : IntKind.i64.wrap ((t.size : Int) + 1) = ((t.size + 1 : Nat) : Int) := wrap_nat (n := t.size + 1) (by omega) (by omega)
    exact again_of ((t.size + 1, v + 1, splitB t b, t.size + 1)) (by refine ⟨?_, ?_, ?_, ?_, ?_, ?_, ⟨by omega, by omega, fun _ => rfl⟩⟩ <;> (first | (simp (maxSteps := 5000000) -dsimp only [gr, Nat.reduceEqDiff, Nat.reduceLT, Nat.reduceAdd, Nat.reduceMod, Nat.reduceBEq, sid_mod, sid_ne1, sid_ne2, sid_inj, h0a, h1a, h5a, r8a, h6a, h7a, hw, sL_snoc, splitB]; first | done | rfl | (simp; done)) | assumption | rfl)) (by first | omega | (simp only; omega) | (dsimp only; omega) | (show _ < _; simp; omega))
theorem c_impl_ParseSet (t : ByteArray) (h : OkSet t) : AC Try.prog 118 [str t] (.tup [.im (int (setV t t.size : Nat)), .im (bool true)]) := by
  refine AC.go (rs := [.tmp 2, .tmp 3]) T_ok mixed Try.func118 rfl rfl rfl (by kernel_rfl) fun hl => ?_
  have hlo := h.lo
  have hhi := h.hi
  have e0 : ((t.size : Int) == 0) = false := beq_eq_false_iff_ne.2 (by omega)
  have e6 : (6 < (t.size : Int)) = False := eq_false (by omega)
  simp (maxSteps := 5000000) -dsimp only [↓gp, gq, reduceCtorEq, Nat.reduceEqDiff, Nat.reduceLT, Nat.reduceLeDiff, Nat.reduceAdd, Nat.reduceMul, Nat.reduceSub, Nat.reduceBEq, Int.reduceToNat, Int.reduceLE, Int.reduceLT, Int.reduceNeg, Nat.reduceMod, sid_ne1, sid_ne2, sid_inj, sid_mod, gT, TK.isInt, TK.agg, Array.toList, h.dash, e0, e6]
  refine loop_of (fun (i : Nat) s => s.sl 0 = str t ∧ s.sl 4 = int (setV t i : Nat) ∧ s.sl 5 = int i ∧ (i ≤ t.size)) (fun i => t.size - i) (0) (by refine ⟨?_, ?_, ?_, by simp⟩ <;> (first | (simp (maxSteps := 5000000) -dsimp only [gr, Nat.reduceEqDiff, Nat.reduceLT, Nat.reduceAdd, Nat.reduceMod, Nat.reduceBEq, sid_mod, sid_ne1, sid_ne2, sid_inj, setV_zero]; first | done | rfl | (simp; done)) | assumption | rfl)) ?_
  intro i sa ⟨h0a, h4a, h5a, hIa⟩
  simp (maxSteps := 5000000) -dsimp only [↓gp, gq, reduceCtorEq, Nat.reduceEqDiff, Nat.reduceLT, Nat.reduceLeDiff, Nat.reduceAdd, Nat.reduceMul, Nat.reduceSub, Nat.reduceBEq, Int.reduceToNat, Int.reduceLE, Int.reduceLT, Int.reduceNeg, Nat.reduceMod, sid_ne1, sid_ne2, sid_inj, sid_mod, gT, TK.isInt, TK.agg, Array.toList, h0a, h4a, h5a]
  have hb : byt t i = (t.data.toList.getD i 0).toNat := rfl
  rw [← hb]
  refine ⟨fun hi => ?_, fun hi => by obtain rfl : i = t.size := by omega
                                     rfl⟩
  have hl1 := h.letter i hi
  have hr := h.rise i hi
  have hv := setV_64 h i (by omega)
  have h2k : 2 ^ (byt t i - 97) < 64 := by have : 2 ^ (byt t i - 97) < 2 ^ 6 := Nat.pow_lt_pow_right (by omega) (by omega); omega
  have hw8 : IntKind.u8.wrap ((byt t i : Int) - 97) = ((byt t i - 97 : Nat) : Int) := by
    simp [IntKind.wrap, IntKind.bits, IntKind.signed]
    omega
  have hw64 : IntKind.u64.wrap ((byt t i - 97 : Nat) : Int) = ((byt t i - 97 : Nat) : Int) := uwrap_id (by omega)
  have hor : ior .i64 ((setV t i : Nat) : Int) (ishl .i64 1 ((byt t i - 97 : Nat) : Int)) = ((setV t (i + 1) : Nat) : Int) := by
    rw [ishl_small (by omega), ior_nat (by omega) (by omega), setV_succ]
  refine ⟨hi, fun _ => ⟨hi, fun hc => by omega, fun _ => ⟨by kernel_rfl, fun h0 => ?_, fun h0 => ⟨hi, by rw [hw8, hw64]; omega, ?_⟩⟩⟩, fun hc => by omega⟩
  · have h0 : 0 < i := by omega
    have hw1 : IntKind.i64.wrap ((i : Int) - 1) = ((i - 1 : Nat) : Int) := by rw [wrap_id (by omega) (by omega)]; omega
    rw [hw1]
    refine ⟨hi, by omega, by omega, fun hc => ?_, fun hc => ⟨hi, by rw [hw8, hw64]; omega, ?_⟩⟩
    · have := hr h0
      unfold byt at this hc
      rw [Int.toNat_natCast] at hc
      omega
    · exact again_of (i + 1) (by refine ⟨?_, ?_, ?_, by omega⟩ <;> (first | (simp (maxSteps := 5000000) -dsimp only [gr, Nat.reduceEqDiff, Nat.reduceLT, Nat.reduceAdd, Nat.reduceMod, Nat.reduceBEq, sid_mod, sid_ne1, sid_ne2, sid_inj, h0a, h4a, h5a, ← hb, hw8, hw64, hor, wrap_nat hi (by omega)]; first | done | rfl | (simp; done)) | assumption | rfl)) (by first | omega | (simp only; omega) | (dsimp only; omega) | (show _ < _; simp; omega))
  · exact again_of (i + 1) (by refine ⟨?_, ?_, ?_, by omega⟩ <;> (first | (simp (maxSteps := 5000000) -dsimp only [gr, Nat.reduceEqDiff, Nat.reduceLT, Nat.reduceAdd, Nat.reduceMod, Nat.reduceBEq, sid_mod, sid_ne1, sid_ne2, sid_inj, h0a, h4a, h5a, ← hb, hw8, hw64, hor, wrap_nat hi (by omega)]; first | done | rfl | (simp; done)) | assumption | rfl)) (by first | omega | (simp only; omega) | (dsimp only; omega) | (show _ < _; simp; omega))
theorem c_spec_ParseSet (t : ByteArray) (h : OkSet t) : AC Try.prog 115 [str t] (.tup [.im (int (setV t t.size : Nat)), .im (bool true)]) := by
  refine AC.go (rs := [.tmp 2, .tmp 3]) T_ok mixed Try.func115 rfl rfl rfl (by kernel_rfl) fun hl => ?_
  simp (maxSteps := 5000000) -dsimp only [↓gp, gq, reduceCtorEq, Nat.reduceEqDiff, Nat.reduceLT, Nat.reduceLeDiff, Nat.reduceAdd, Nat.reduceMul, Nat.reduceSub, Nat.reduceBEq, Int.reduceToNat, Int.reduceLE, Int.reduceLT, Int.reduceNeg, Nat.reduceMod, sid_ne1, sid_ne2, sid_inj, sid_mod, gT, TK.isInt, TK.agg, Array.toList]
  refine loop_of (fun (i : Nat) s => s.sl 0 = str t ∧ s.sl 4 = int (setV t i : Nat) ∧ s.sl 5 = int i ∧ (i ≤ t.size)) (fun i => t.size - i) (0) (by refine ⟨?_, ?_, ?_, by simp⟩ <;> (first | (simp (maxSteps := 5000000) -dsimp only [gr, Nat.reduceEqDiff, Nat.reduceLT, Nat.reduceAdd, Nat.reduceMod, Nat.reduceBEq, sid_mod, sid_ne1, sid_ne2, sid_inj, setV_zero]; first | done | rfl | (simp; done)) | assumption | rfl)) ?_
  intro i sa ⟨h0a, h4a, h5a, hIa⟩
  rcases Nat.lt_or_ge i t.size with hi | hi
  · have hlt : ((i : Int) < (t.size : Int)) = True := eq_true (by omega)
    have hb : byt t i = (t.data.toList.getD i 0).toNat := rfl
    have hl1 := h.letter i hi
    have hhi := h.hi
    have hv := setV_64 h i (by omega)
    have hvl := setV_lt h i hi
    have hw1 : IntKind.i64.wrap (IntKind.i64.wrap (((t.data.toList.getD i 0).toNat : Nat) : Int) - 97) = ((byt t i - 97 : Nat) : Int) := by
      have e1 : IntKind.i64.wrap ((byt t i : Nat) : Int) = ((byt t i : Nat) : Int) := wrap_id (by omega) (by omega)
      rw [← hb, e1, wrap_id (by omega) (by omega)]; omega
    simp (maxSteps := 5000000) -dsimp only [↓gp, gq, reduceCtorEq, Nat.reduceEqDiff, Nat.reduceLT, Nat.reduceLeDiff, Nat.reduceAdd, Nat.reduceMul, Nat.reduceSub, Nat.reduceBEq, Int.reduceToNat, Int.reduceLE, Int.reduceLT, Int.reduceNeg, Nat.reduceMod, sid_ne1, sid_ne2, sid_inj, sid_mod, gT, TK.isInt, TK.agg, Array.toList, h0a, h4a, h5a, h.dash, h.empty, hlt, hw1]
    refine ⟨hi, askK_of (c_spec_l1In _ _ _) ?_⟩
    have hd : (decide ((0 : Int) ≤ ((byt t i - 97 : Nat) : Int)) && decide (((byt t i - 97 : Nat) : Int) ≤ 5)) = true := by simp; omega
    have hw64 : IntKind.u64.wrap ((byt t i - 97 : Nat) : Int) = ((byt t i - 97 : Nat) : Int) := uwrap_id (by omega)
    have hsh : ishr .i64 ((setV t i : Nat) : Int) ((byt t i - 97 : Nat) : Int) = 0 := by
      rw [ishr_i (by omega), Nat.shiftRight_eq_div_pow, Nat.div_eq_of_lt hvl]; rfl
    have h2k : 2 ^ (byt t i - 97) < 64 := by have : 2 ^ (byt t i - 97) < 2 ^ 6 := Nat.pow_lt_pow_right (by omega) (by omega); omega
    have hadd : IntKind.i64.wrap (((setV t i : Nat) : Int) + ishl .i64 1 ((byt t i - 97 : Nat) : Int)) = ((setV t (i + 1) : Nat) : Int) := by
      rw [ishl_small (by omega), wrap_id (by omega) (by omega), ← setV_add h hi]; rfl
    simp (maxSteps := 5000000) -dsimp only [↓gp, gq, reduceCtorEq, Nat.reduceEqDiff, Nat.reduceLT, Nat.reduceLeDiff, Nat.reduceAdd, Nat.reduceMul, Nat.reduceSub, Nat.reduceBEq, Int.reduceToNat, Int.reduceLE, Int.reduceLT, Int.reduceNeg, Nat.reduceMod, sid_ne1, sid_ne2, sid_inj, sid_mod, gT, TK.isInt, TK.agg, Array.toList, h0a, h4a, h5a, hlt, hw1, hd, hw64, hsh, hadd]
    have hd2 : (!(decide True && decide (((byt t i - 97 : Nat) : Int) ≤ 5))) = false := by simp; omega
    refine ⟨fun _ => ⟨fun hc => (by simp at hc), fun _ => again_of (i + 1) (by refine ⟨?_, ?_, ?_, by omega⟩ <;> (first | (simp (maxSteps := 5000000) -dsimp only [gr, Nat.reduceEqDiff, Nat.reduceLT, Nat.reduceAdd, Nat.reduceMod, Nat.reduceBEq, sid_mod, sid_ne1, sid_ne2, sid_inj, h0a, h4a, h5a, hw1, hw64, hadd, wrap_nat hi (by omega)]; first | done | rfl | (simp; done)) | assumption | rfl)) (by first | omega | (simp only; omega) | (dsimp only; omega) | (show _ < _; simp; omega))⟩, fun hc => by rw [hd2] at hc; cases hc⟩
  · obtain rfl : i = t.size := by omega
    have hlt : ((t.size : Int) < (t.size : Int)) = False := eq_false (by omega)
    simp (maxSteps := 5000000) -dsimp only [↓gp, gq, reduceCtorEq, Nat.reduceEqDiff, Nat.reduceLT, Nat.reduceLeDiff, Nat.reduceAdd, Nat.reduceMul, Nat.reduceSub, Nat.reduceBEq, Int.reduceToNat, Int.reduceLE, Int.reduceLT, Int.reduceNeg, Nat.reduceMod, sid_ne1, sid_ne2, sid_inj, sid_mod, gT, TK.isInt, TK.agg, Array.toList, h0a, h4a, h5a, h.dash, h.empty, hlt]
/-- The sets of the parts. -/
def facs (ps : List ByteArray) : List Int := ps.map fun p => ((setV p p.size : Nat) : Int)
theorem facs_take {ps : List ByteArray} {k : Nat} (h : k < ps.length) : facs (ps.take (k + 1)) = facs (ps.take k) ++ [((setV (ps.getD k ⟨#[]⟩) (ps.getD k ⟨#[]⟩).size : Nat) : Int)] := by
  unfold facs
  rw [take_snoc ⟨#[]⟩ h, List.map_append]; rfl
def chr (n : Nat) : ByteArray := ⟨#[UInt8.ofNat (48 + n)]⟩
/-- A text that tells a complex. -/
structure OkText (t : ByteArray) (n : Nat) (rest : ByteArray) (ps : List ByteArray) : Prop where
  size : 2 ≤ t.size ∧ t.size ≤ 1000
  pts : 1 ≤ n ∧ n ≤ 6
  b0 : byt t 0 = 48 + n
  b1 : byt t 1 = 58
  tail : t.extract 2 t.size = rest
  rsize : rest.size ≤ 1000
  full : (rest.toList == (⟨#[]⟩ : ByteArray).toList) = false
  parts : splitB rest 44 = ps
  plen : ps.length ≤ 1000
  pne : 0 < ps.length
  sets : ∀ p ∈ ps, OkSet p
  head : splitB t 58 = [chr n, rest]
  cx : cxP n (facs ps)
theorem adopt_tvvv {s : St} (d : Nat) (x y z : Value) : adoptSt s d (.tup [.im (.v x), .im (.v y), .im (.v z)]) = s.put (some d) (.tup [.v x, .v y, .v z]) := by
  unfold adoptSt
  simp [leaves_tup, leaves, addRows, adopt2, adopt1, adoptL, adopt0, leafId, St.row, setIf]
theorem c_impl_parseHead {t rest : ByteArray} {n : Nat} {ps : List ByteArray} (h : OkText t n rest ps) : AC Try.prog 116 [str t] (.tup [.im (int n), .im (str rest), .im (bool true)]) := by
  refine AC.go (rs := [.tmp 2, .tmp 3, .tmp 4]) T_ok mixed Try.func116 rfl rfl rfl (by kernel_rfl) fun hl => ?_
  have h1 := h.size
  have h2 := h.pts
  have h3 : (t.data.toList.getD 0 0).toNat = 48 + n := h.b0
  have h4 : (t.data.toList.getD 1 0).toNat = 58 := h.b1
  simp (maxSteps := 5000000) -dsimp only [↓gp, gq, reduceCtorEq, Nat.reduceEqDiff, Nat.reduceLT, Nat.reduceLeDiff, Nat.reduceAdd, Nat.reduceMul, Nat.reduceSub, Nat.reduceBEq, Int.reduceToNat, Int.reduceLE, Int.reduceLT, Int.reduceNeg, Nat.reduceMod, sid_ne1, sid_ne2, sid_inj, sid_mod, gT, TK.isInt, TK.agg, Array.toList, h3, h4]
  have hw8 : IntKind.u8.wrap (((48 + n : Nat) : Int) - 48) = (n : Int) := by
    simp [IntKind.wrap, IntKind.bits, IntKind.signed]
    omega
  refine ⟨fun _ => ⟨by omega, fun _ => ⟨by omega, fun _ => ⟨by omega, fun hc => (by simp at hc), fun _ => ⟨by kernel_rfl, by omega, by omega, ?_, h.tail.symm⟩⟩, fun hc => (by omega)⟩, fun hc => (by omega)⟩, fun hc => (by omega)⟩
  rw [hw8, wrap_id (by omega) (by omega)]
theorem c_impl_ParseComplex {t rest : ByteArray} {n : Nat} {ps : List ByteArray} (h : OkText t n rest ps) : AC Try.prog 83 [str t] (.tup [.ag [.im (int n), .fr 3 1 (iL (facs ps))], .im (bool true)]) := by
  refine AC.go (rs := [.cell 2 24, .tmp 3]) T_ok mixed Try.func83 rfl rfl rfl (by kernel_rfl) fun hl => ?_
  simp (maxSteps := 5000000) -dsimp only [↓gp, gq, reduceCtorEq, Nat.reduceEqDiff, Nat.reduceLT, Nat.reduceLeDiff, Nat.reduceAdd, Nat.reduceMul, Nat.reduceSub, Nat.reduceBEq, Int.reduceToNat, Int.reduceLE, Int.reduceLT, Int.reduceNeg, Nat.reduceMod, sid_ne1, sid_ne2, sid_inj, sid_mod, gT, TK.isInt, TK.agg, Array.toList]
  refine askK_of (c_impl_parseHead h) ?_
  simp (maxSteps := 5000000) -dsimp only [↓gp, gq, reduceCtorEq, Nat.reduceEqDiff, Nat.reduceLT, Nat.reduceLeDiff, Nat.reduceAdd, Nat.reduceMul, Nat.reduceSub, Nat.reduceBEq, Int.reduceToNat, Int.reduceLE, Int.reduceLT, Int.reduceNeg, Nat.reduceMod, sid_ne1, sid_ne2, sid_inj, sid_mod, gT, TK.isInt, TK.agg, Array.toList, adopt_tvvv, h.full]
  refine askK_of (c_impl_SplitByte rest 44 h.rsize) ?_
  rw [h.parts]
  simp (maxSteps := 5000000) -dsimp only [↓gp, gq, reduceCtorEq, Nat.reduceEqDiff, Nat.reduceLT, Nat.reduceLeDiff, Nat.reduceAdd, Nat.reduceMul, Nat.reduceSub, Nat.reduceBEq, Int.reduceToNat, Int.reduceLE, Int.reduceLT, Int.reduceNeg, Nat.reduceMod, sid_ne1, sid_ne2, sid_inj, sid_mod, gT, TK.isInt, TK.agg, Array.toList, sL_length]
  refine loop_of (fun (za : Nat × Nat × PV × RK × Nat × Nat) s => match za with | (k, u, fc, kd, v, y) => s.sl 2 = .ref 2 1 0 ∧ s.rw 2 = ⟨1, .box 24 [int 0, .v (.slice none 0 0)]⟩ ∧ s.sl 7 = .ref 7 y 0 ∧ s.rw 7 = ⟨y, .box 24 [int n, fc]⟩ ∧ s.rw 44 = ⟨u, kd⟩ ∧ s.sl 26 = .own 26 v ∧ s.rw 26 = ⟨v, .sli 9 1 false (sL ps)⟩ ∧ s.sl 27 = int ps.length ∧ s.sl 28 = int k ∧ (k ≤ ps.length ∧ ((k = 0 ∧ fc = .v (.slice none 0 0)) ∨ (0 < k ∧ fc = .own 44 u ∧ kd = .sli 3 1 false (iL (facs (ps.take k))))))) (fun (k, u, fc, kd, v, y) => ps.length - k) ((0, 0, .v (.slice none 0 0), .dead, 1, 1)) (by refine ⟨?_, ?_, ?_, ?_, ?_, ?_, ?_, ?_, ?_, by simp⟩ <;> (first | (simp (maxSteps := 5000000) -dsimp only [gr, Nat.reduceEqDiff, Nat.reduceLT, Nat.reduceAdd, Nat.reduceMod, Nat.reduceBEq, sid_mod, sid_ne1, sid_ne2, sid_inj, sL_length]; first | done | rfl | (simp; done)) | assumption | rfl)) ?_
  intro (k, u, fc, kd, v, y) sa ⟨h2a, r2a, h7a, r7a, r44a, h26a, r26a, h27a, h28a, hIa⟩
  obtain ⟨hk, hfc⟩ := hIa
  have hfl : (facs (ps.take k)).length = k := by unfold facs; simp; omega
  rcases hfc with ⟨rfl, rfl⟩ | ⟨h0, rfl, rfl⟩
  · simp (maxSteps := 5000000) -dsimp only [↓gp, gq, reduceCtorEq, Nat.reduceEqDiff, Nat.reduceLT, Nat.reduceLeDiff, Nat.reduceAdd, Nat.reduceMul, Nat.reduceSub, Nat.reduceBEq, Int.reduceToNat, Int.reduceLE, Int.reduceLT, Int.reduceNeg, Nat.reduceMod, sid_ne1, sid_ne2, sid_inj, sid_mod, gT, TK.isInt, TK.agg, Array.toList, h2a, r2a, h7a, r7a, r44a, h26a, r26a, h27a, h28a, sL_length]
    refine ⟨fun hlt => ⟨hlt, hlt, askK_of (c_impl_ParseSet _ (h.sets _ (getD_mem ⟨#[]⟩ hlt))) ?_⟩, fun hge => ?_⟩
    · simp (maxSteps := 5000000) -dsimp only [↓gp, gq, reduceCtorEq, Nat.reduceEqDiff, Nat.reduceLT, Nat.reduceLeDiff, Nat.reduceAdd, Nat.reduceMul, Nat.reduceSub, Nat.reduceBEq, Int.reduceToNat, Int.reduceLE, Int.reduceLT, Int.reduceNeg, Nat.reduceMod, sid_ne1, sid_ne2, sid_inj, sid_mod, gT, TK.isInt, TK.agg, Array.toList, h2a, r2a, h7a, r7a, r44a, h26a, r26a, h27a, h28a, sL_length]
      have hf1 : facs (ps.take 1) = [((setV (ps.getD 0 ⟨#[]⟩) (ps.getD 0 ⟨#[]⟩).size : Nat) : Int)] := facs_take hlt
      exact again_of ((1, u + 1, .own 44 (u + 1), .sli 3 1 false (iL (facs (ps.take 1))), v, y)) (by refine ⟨?_, ?_, ?_, ?_, ?_, ?_, ?_, ?_, ?_, ⟨by omega, Or.inr ⟨by omega, rfl, rfl⟩⟩⟩ <;> (first | (simp (maxSteps := 5000000) -dsimp only [gr, Nat.reduceEqDiff, Nat.reduceLT, Nat.reduceAdd, Nat.reduceMod, Nat.reduceBEq, sid_mod, sid_ne1, sid_ne2, sid_inj, h2a, r2a, h7a, r7a, r44a, h26a, r26a, h27a, h28a, hf1]; first | done | rfl | (simp; done)) | assumption | rfl)) (by first | omega | (simp only; omega) | (dsimp only; omega) | (show _ < _; simp; omega))
    · exact absurd h.pne hge
  · simp (maxSteps := 5000000) -dsimp only [↓gp, gq, reduceCtorEq, Nat.reduceEqDiff, Nat.reduceLT, Nat.reduceLeDiff, Nat.reduceAdd, Nat.reduceMul, Nat.reduceSub, Nat.reduceBEq, Int.reduceToNat, Int.reduceLE, Int.reduceLT, Int.reduceNeg, Nat.reduceMod, sid_ne1, sid_ne2, sid_inj, sid_mod, gT, TK.isInt, TK.agg, Array.toList, h2a, r2a, h7a, r7a, r44a, h26a, r26a, h27a, h28a, sL_length, iL_length, hfl]
    refine ⟨fun hlt => ⟨hlt, hlt, askK_of (c_impl_ParseSet _ (h.sets _ (getD_mem ⟨#[]⟩ hlt))) ?_⟩, fun hge => ?_⟩
    · simp (maxSteps := 5000000) -dsimp only [↓gp, gq, reduceCtorEq, Nat.reduceEqDiff, Nat.reduceLT, Nat.reduceLeDiff, Nat.reduceAdd, Nat.reduceMul, Nat.reduceSub, Nat.reduceBEq, Int.reduceToNat, Int.reduceLE, Int.reduceLT, Int.reduceNeg, Nat.reduceMod, sid_ne1, sid_ne2, sid_inj, sid_mod, gT, TK.isInt, TK.agg, Array.toList, h2a, r2a, h7a, r7a, r44a, h26a, r26a, h27a, h28a, sL_length, hfl]
      have hpl := h.plen
      refine ⟨by omega, ?_⟩
      exact again_of ((k + 1, u + 1, .own 44 (u + 1), .sli 3 1 false (iL (facs (ps.take (k + 1)))), v, y)) (by refine ⟨?_, ?_, ?_, ?_, ?_, ?_, ?_, ?_, ?_, ⟨by omega, Or.inr ⟨by omega, rfl, rfl⟩⟩⟩ <;> (first | (simp (maxSteps := 5000000) -dsimp only [gr, Nat.reduceEqDiff, Nat.reduceLT, Nat.reduceAdd, Nat.reduceMod, Nat.reduceBEq, sid_mod, sid_ne1, sid_ne2, sid_inj, h2a, r2a, h7a, r7a, r44a, h26a, r26a, h27a, h28a, facs_take hlt, wrap_nat hlt (by omega)]; first | done | rfl | (simp; done)) | assumption | rfl)) (by first | omega | (simp only; omega) | (dsimp only; omega) | (show _ < _; simp; omega))
    · obtain rfl : k = ps.length := by omega
      rw [List.take_length]
      have hcx := isCx_yes h.cx
      refine askK_of (c_impl_IsComplex n (facs ps)) ?_
      simp (maxSteps := 5000000) -dsimp only [↓gp, gq, reduceCtorEq, Nat.reduceEqDiff, Nat.reduceLT, Nat.reduceLeDiff, Nat.reduceAdd, Nat.reduceMul, Nat.reduceSub, Nat.reduceBEq, Int.reduceToNat, Int.reduceLE, Int.reduceLT, Int.reduceNeg, Nat.reduceMod, sid_ne1, sid_ne2, sid_inj, sid_mod, gT, TK.isInt, TK.agg, Array.toList, h2a, r2a, h7a, r7a, r44a, h26a, r26a, h27a, h28a, hcx, hfl, List.take_length]

def cvRow (r : Row) (ver : Nat) (Kp : PV → Prop) : Prop := r.ver = ver ∧ match r.kind with
  | .nil => ∃ bs : List Int, [] = bs.map (fun n => PV.v (.int .u8 n)) ∧ Kp (.v (.string (bs.foldl (fun r n => r.push (UInt8.ofNat n.toNat)) ByteArray.empty)))
  | .sli _ sz _ c => sz = 1 ∧ ∃ bs : List Int, c = bs.map (fun n => PV.v (.int .u8 n)) ∧ Kp (.v (.string (bs.foldl (fun r n => r.push (UInt8.ofNat n.toNat)) ByteArray.empty)))
  | _ => False
theorem conv_own (rw : Nat → Row) (j ver : Nat) {Kp : PV → Prop} : convK T rw 103 9 (.own j ver) Kp = cvRow (rw j) ver Kp := by
  have ha : (T 103).k = .sli 5 := T103k
  have hb : (T 9).k = .str := T9k
  have he : (T 5).k = .int .u8 := T5k
  have s1 : (T 103).size = 1 := T103s
  have s2 : (T 9).size = 1 := T9s
  have s3 : (T 5).size = 1 := T5s
  unfold convK cvRow
  simp only [ha, hb, he, s1, s2, s3, slK]
  cases h : (rw j).kind <;> simp
theorem cvRow_one (ver e : Nat) (fz : Bool) (n : Int) {Kp : PV → Prop} : cvRow ⟨ver, .sli e 1 fz [.v (.int .u8 n)]⟩ ver Kp = Kp (.v (.string ([n].foldl (fun r n => r.push (UInt8.ofNat n.toNat)) ByteArray.empty))) := by
  unfold cvRow
  simp only [true_and]
  refine propext ⟨fun ⟨bs, hb, h⟩ => ?_, fun h => ⟨[n], rfl, h⟩⟩
  match bs, hb with
  | [m], hb => simp at hb; subst hb; exact h
theorem lit_u8 (n : Int) : lit [.v (.int .u8 n)] = [.v (.int .u8 n)] := rfl
theorem chr_size (n : Nat) : (chr n).size = 1 := rfl
theorem chr_at {n : Nat} (h : n ≤ 9) : ((chr n).data.toList.getD 0 0).toNat = 48 + n := by
  show (UInt8.ofNat (48 + n)).toNat = 48 + n
  simp
  omega
theorem chr_of {n : Nat} (h : n ≤ 9) : ([(48 + n : Int)].foldl (fun r n => r.push (UInt8.ofNat n.toNat)) ByteArray.empty) ++ ⟨#[]⟩ = chr n := by
  have : ∀ m : Fin 10, ([(48 + (m.val : Nat) : Int)].foldl (fun r n => r.push (UInt8.ofNat n.toNat)) ByteArray.empty) ++ ⟨#[]⟩ = chr m.val := by decide +kernel
  exact this ⟨n, by omega⟩
theorem c_spec_FormatInt {n : Nat} (h1 : 1 ≤ n) (h9 : n ≤ 9) : AC Try.prog 147 [int n] (.im (str (chr n))) := by
  refine AC.go (rs := [.tmp 2]) T_ok mixed Try.func147 rfl rfl rfl (by kernel_rfl) fun hl => ?_
  have e0 : ((n : Int) == 0) = false := beq_eq_false_iff_ne.2 (by omega)
  simp (maxSteps := 5000000) -dsimp only [↓gp, gq, reduceCtorEq, Nat.reduceEqDiff, Nat.reduceLT, Nat.reduceLeDiff, Nat.reduceAdd, Nat.reduceMul, Nat.reduceSub, Nat.reduceBEq, Int.reduceToNat, Int.reduceLE, Int.reduceLT, Int.reduceNeg, Nat.reduceMod, sid_ne1, sid_ne2, sid_inj, sid_mod, gT, TK.isInt, TK.agg, Array.toList, e0]
  refine loop_of (fun (za : Nat × ByteArray) s => match za with | (m, o) => s.sl 0 = int m ∧ s.sl 3 = bool false ∧ s.sl 4 = str o ∧ ((m = n ∧ o = ⟨#[]⟩) ∨ (m = 0 ∧ o = chr n))) (fun (m, o) => m) ((n, ⟨#[]⟩)) (by refine ⟨?_, ?_, ?_, Or.inl ⟨rfl, rfl⟩⟩ <;> (first | (simp (maxSteps := 5000000) -dsimp only [gr, Nat.reduceEqDiff, Nat.reduceLT, Nat.reduceAdd, Nat.reduceMod, Nat.reduceBEq, sid_mod, sid_ne1, sid_ne2, sid_inj, decide_eq_false (show ¬ ((n : Int) < 0) by omega)]; first | done | rfl | (simp; done)) | assumption | rfl)) ?_
  intro (m, o) sa ⟨h0a, h3a, h4a, hIa⟩
  rcases hIa with ⟨rfl, rfl⟩ | ⟨rfl, rfl⟩
  · have ht : ((m : Int)).tmod 10 = (m : Int) := Int.tmod_eq_of_lt (by omega) (by omega)
    have hw : IntKind.i64.wrap (48 + (m : Int)) = 48 + (m : Int) := wrap_id (by omega) (by omega)
    have hw8 : IntKind.u8.wrap (48 + (m : Int)) = 48 + (m : Int) := by
      simp [IntKind.wrap, IntKind.bits, IntKind.signed]
      omega
    have hq : ((m : Int)).tdiv 10 = 0 := Int.tdiv_eq_zero_of_lt (by omega) (by omega)
    have hc := chr_of h9
    simp (maxSteps := 5000000) -dsimp only [↓gp, gq, reduceCtorEq, Nat.reduceEqDiff, Nat.reduceLT, Nat.reduceLeDiff, Nat.reduceAdd, Nat.reduceMul, Nat.reduceSub, Nat.reduceBEq, Int.reduceToNat, Int.reduceLE, Int.reduceLT, Int.reduceNeg, Nat.reduceMod, sid_ne1, sid_ne2, sid_inj, sid_mod, gT, TK.isInt, TK.agg, Array.toList, h0a, h3a, h4a, conv_own, cvRow_one, lit_u8, ht, hw, hw8, hq, hc]
    refine ⟨fun _ => ⟨by decide, fun h => absurd h (by omega), fun _ => ⟨?_, by decide, again_of ((0, chr m)) (by refine ⟨?_, ?_, ?_, Or.inr ⟨rfl, rfl⟩⟩ <;> (first | (simp (maxSteps := 5000000) -dsimp only [gr, Nat.reduceEqDiff, Nat.reduceLT, Nat.reduceAdd, Nat.reduceMod, Nat.reduceBEq, sid_mod, sid_ne1, sid_ne2, sid_inj, h0a, h3a, h4a, ht, hw, hw8, hq, hc]; first | done | rfl | (simp; done)) | assumption | rfl)) (by first | omega | (simp only; omega) | (dsimp only; omega) | (show _ < _; simp; omega))⟩⟩, fun h => ?_⟩
    · show 1 + 0 ≤ 9223372036854775807
      omega
    · simp at h
      omega
  · simp (maxSteps := 5000000) -dsimp only [↓gp, gq, reduceCtorEq, Nat.reduceEqDiff, Nat.reduceLT, Nat.reduceLeDiff, Nat.reduceAdd, Nat.reduceMul, Nat.reduceSub, Nat.reduceBEq, Int.reduceToNat, Int.reduceLE, Int.reduceLT, Int.reduceNeg, Nat.reduceMod, sid_ne1, sid_ne2, sid_inj, sid_mod, gT, TK.isInt, TK.agg, Array.toList, h0a, h3a, h4a, show (((0 : Nat) : Int) != 0) = false from rfl]
theorem c_spec_l1Read {n : Nat} (h1 : 1 ≤ n) (h9 : n ≤ 9) : AC Try.prog 139 [str (chr n), int 12] (.tup [.im (int n), .im (bool true)]) := by
  refine AC.go (rs := [.tmp 4, .tmp 5]) T_ok mixed Try.func139 rfl rfl rfl (by kernel_rfl) fun hl => ?_
  have hc := chr_at h9
  have e45 : (((48 + n : Nat) : Int) == 45) = false := beq_eq_false_iff_ne.2 (by omega)
  have hz1 : ((1 : Nat) : Int) = 1 := rfl
  simp (maxSteps := 5000000) -dsimp only [↓gp, gq, reduceCtorEq, Nat.reduceEqDiff, Nat.reduceLT, Nat.reduceLeDiff, Nat.reduceAdd, Nat.reduceMul, Nat.reduceSub, Nat.reduceBEq, Int.reduceToNat, Int.reduceLE, Int.reduceLT, Int.reduceNeg, Nat.reduceMod, sid_ne1, sid_ne2, sid_inj, sid_mod, gT, TK.isInt, TK.agg, Array.toList, chr_size, hc, e45, hz1]
  refine loop_of (fun (i : Nat) s => s.sl 0 = str (chr n) ∧ s.sl 6 = bool false ∧ s.sl 7 = str (chr n) ∧ s.sl 8 = int (if i = 0 then 0 else n : Nat) ∧ s.sl 9 = int i ∧ (i ≤ 1)) (fun i => 1 - i) (0) (by refine ⟨?_, ?_, ?_, ?_, ?_, by simp⟩ <;> (first | (simp (maxSteps := 5000000) -dsimp only [gr, Nat.reduceEqDiff, Nat.reduceLT, Nat.reduceAdd, Nat.reduceMod, Nat.reduceBEq, sid_mod, sid_ne1, sid_ne2, sid_inj]; first | done | rfl | (simp; done)) | assumption | rfl)) ?_
  intro i sa ⟨h0a, h6a, h7a, h8a, h9a, hIa⟩
  have hi : i = 0 ∨ i = 1 := by omega
  rcases hi with rfl | rfl
  · have z0 : ((0 : Nat) : Int) = 0 := rfl
    have hw8 : IntKind.u8.wrap (((48 + n : Nat) : Int) - 48) = (n : Int) := by
      simp [IntKind.wrap, IntKind.bits, IntKind.signed]
      omega
    have hw : IntKind.i64.wrap (n : Int) = (n : Int) := wrap_id (by omega) (by omega)
    have hm : IntKind.i64.wrap (10 * 0) = 0 := by decide
    have ha : IntKind.i64.wrap (0 + (n : Int)) = (n : Int) := by rw [Int.zero_add]; exact hw
    have h01 : IntKind.i64.wrap (0 + 1) = 1 := by decide
    simp (maxSteps := 5000000) -dsimp only [↓gp, gq, reduceCtorEq, Nat.reduceEqDiff, Nat.reduceLT, Nat.reduceLeDiff, Nat.reduceAdd, Nat.reduceMul, Nat.reduceSub, Nat.reduceBEq, Int.reduceToNat, Int.reduceLE, Int.reduceLT, Int.reduceNeg, Nat.reduceMod, sid_ne1, sid_ne2, sid_inj, sid_mod, gT, TK.isInt, TK.agg, Array.toList, h0a, h6a, h7a, h8a, h9a, chr_size, hc, hz1, z0]
    refine ⟨fun _ => ⟨fun hx => absurd hx (by omega), fun _ => again_of (1) (by refine ⟨?_, ?_, ?_, ?_, ?_, by omega⟩ <;> (first | (simp (maxSteps := 5000000) -dsimp only [gr, Nat.reduceEqDiff, Nat.reduceLT, Nat.reduceAdd, Nat.reduceMod, Nat.reduceBEq, sid_mod, sid_ne1, sid_ne2, sid_inj, h0a, h6a, h7a, h8a, h9a, hw8, hw, hm, ha, h01]; first | done | rfl | (simp; done)) | assumption | rfl)) (by first | omega | (simp only; omega) | (dsimp only; omega) | (show _ < _; simp; omega))⟩, fun hx => absurd hx (by omega)⟩
  · simp (maxSteps := 5000000) -dsimp only [↓gp, gq, reduceCtorEq, Nat.reduceEqDiff, Nat.reduceLT, Nat.reduceLeDiff, Nat.reduceAdd, Nat.reduceMul, Nat.reduceSub, Nat.reduceBEq, Int.reduceToNat, Int.reduceLE, Int.reduceLT, Int.reduceNeg, Nat.reduceMod, sid_ne1, sid_ne2, sid_inj, sid_mod, gT, TK.isInt, TK.agg, Array.toList, h0a, h6a, h7a, h8a, h9a, chr_size, hc, hz1]
    refine askK_of (c_spec_FormatInt h1 h9) ?_
    simp (maxSteps := 5000000) -dsimp only [↓gp, gq, reduceCtorEq, Nat.reduceEqDiff, Nat.reduceLT, Nat.reduceLeDiff, Nat.reduceAdd, Nat.reduceMul, Nat.reduceSub, Nat.reduceBEq, Int.reduceToNat, Int.reduceLE, Int.reduceLT, Int.reduceNeg, Nat.reduceMod, sid_ne1, sid_ne2, sid_inj, sid_mod, gT, TK.isInt, TK.agg, Array.toList, h0a, h6a, h7a, h8a, h9a, chr_size, beq_self_eq_true]
theorem c_spec_ParseInt {n : Nat} (h1 : 1 ≤ n) (h9 : n ≤ 9) : AC Try.prog 114 [str (chr n)] (.tup [.im (int n), .im (bool true)]) := by
  refine AC.go (rs := [.tmp 2, .tmp 3]) T_ok mixed Try.func114 rfl rfl rfl (by kernel_rfl) fun hl => ?_
  simp (maxSteps := 5000000) -dsimp only [↓gp, gq, reduceCtorEq, Nat.reduceEqDiff, Nat.reduceLT, Nat.reduceLeDiff, Nat.reduceAdd, Nat.reduceMul, Nat.reduceSub, Nat.reduceBEq, Int.reduceToNat, Int.reduceLE, Int.reduceLT, Int.reduceNeg, Nat.reduceMod, sid_ne1, sid_ne2, sid_inj, sid_mod, gT, TK.isInt, TK.agg, Array.toList]
  refine askK_of (c_spec_l1Read h1 h9) ?_
  simp (maxSteps := 5000000) -dsimp only [↓gp, gq, reduceCtorEq, Nat.reduceEqDiff, Nat.reduceLT, Nat.reduceLeDiff, Nat.reduceAdd, Nat.reduceMul, Nat.reduceSub, Nat.reduceBEq, Int.reduceToNat, Int.reduceLE, Int.reduceLT, Int.reduceNeg, Nat.reduceMod, sid_ne1, sid_ne2, sid_inj, sid_mod, gT, TK.isInt, TK.agg, Array.toList]
theorem c_spec_ParseComplex {t rest : ByteArray} {n : Nat} {ps : List ByteArray} (h : OkText t n rest ps) : AC Try.prog 81 [str t] (.tup [.ag [.im (int n), .fr 3 1 (iL (facs ps))], .im (bool true)]) := by
  refine AC.go (rs := [.cell 2 24, .tmp 3]) T_ok mixed Try.func81 rfl rfl rfl (by kernel_rfl) fun hl => ?_
  simp (maxSteps := 5000000) -dsimp only [↓gp, gq, reduceCtorEq, Nat.reduceEqDiff, Nat.reduceLT, Nat.reduceLeDiff, Nat.reduceAdd, Nat.reduceMul, Nat.reduceSub, Nat.reduceBEq, Int.reduceToNat, Int.reduceLE, Int.reduceLT, Int.reduceNeg, Nat.reduceMod, sid_ne1, sid_ne2, sid_inj, sid_mod, gT, TK.isInt, TK.agg, Array.toList]
  refine askK_of (c_spec_SplitByte t 58 h.size.2) ?_
  rw [h.head]
  have hz2 : (((2 : Nat) : Int) != 2) = false := rfl
  simp (maxSteps := 5000000) -dsimp only [↓gp, gq, reduceCtorEq, Nat.reduceEqDiff, Nat.reduceLT, Nat.reduceLeDiff, Nat.reduceAdd, Nat.reduceMul, Nat.reduceSub, Nat.reduceBEq, Int.reduceToNat, Int.reduceLE, Int.reduceLT, Int.reduceNeg, Nat.reduceMod, sid_ne1, sid_ne2, sid_inj, sid_mod, gT, TK.isInt, TK.agg, Array.toList, sL_length, hz2]
  refine ⟨by omega, askK_of (c_spec_ParseInt h.pts.1 (by have := h.pts; omega)) ?_⟩
  simp (maxSteps := 5000000) -dsimp only [↓gp, gq, reduceCtorEq, Nat.reduceEqDiff, Nat.reduceLT, Nat.reduceLeDiff, Nat.reduceAdd, Nat.reduceMul, Nat.reduceSub, Nat.reduceBEq, Int.reduceToNat, Int.reduceLE, Int.reduceLT, Int.reduceNeg, Nat.reduceMod, sid_ne1, sid_ne2, sid_inj, sid_mod, gT, TK.isInt, TK.agg, Array.toList]
  refine ⟨by omega, askK_of (c_spec_SplitByte rest 44 h.rsize) ?_⟩
  rw [h.parts]
  simp (maxSteps := 5000000) -dsimp only [↓gp, gq, reduceCtorEq, Nat.reduceEqDiff, Nat.reduceLT, Nat.reduceLeDiff, Nat.reduceAdd, Nat.reduceMul, Nat.reduceSub, Nat.reduceBEq, Int.reduceToNat, Int.reduceLE, Int.reduceLT, Int.reduceNeg, Nat.reduceMod, sid_ne1, sid_ne2, sid_inj, sid_mod, gT, TK.isInt, TK.agg, Array.toList, sL_length]
  refine loop_of (fun (za : Nat × Nat × PV × RK × Nat × Nat × Nat) s => match za with | (k, u, fc, kd, v, y, z) => s.sl 2 = .ref 2 1 0 ∧ s.rw 2 = ⟨1, .box 24 [int 0, .v (.slice none 0 0)]⟩ ∧ s.sl 7 = .ref 7 y 0 ∧ s.rw 7 = ⟨y, .box 24 [int n, fc]⟩ ∧ s.rw 58 = ⟨u, kd⟩ ∧ s.sl 4 = .own 13 z ∧ s.rw 13 = ⟨z, .sli 9 1 false (sL [chr n, rest])⟩ ∧ s.sl 6 = bool true ∧ s.sl 8 = .own 30 v ∧ s.rw 30 = ⟨v, .sli 9 1 false (sL ps)⟩ ∧ s.sl 9 = int k ∧ (k ≤ ps.length ∧ ((k = 0 ∧ fc = .v (.slice none 0 0)) ∨ (0 < k ∧ fc = .own 58 u ∧ kd = .sli 3 1 false (iL (facs (ps.take k))))))) (fun (k, u, fc, kd, v, y, z) => ps.length - k) ((0, 0, .v (.slice none 0 0), .dead, 1, 1, 1)) (by refine ⟨?_, ?_, ?_, ?_, ?_, ?_, ?_, ?_, ?_, ?_, ?_, by simp⟩ <;> (first | (simp (maxSteps := 5000000) -dsimp only [gr, Nat.reduceEqDiff, Nat.reduceLT, Nat.reduceAdd, Nat.reduceMod, Nat.reduceBEq, sid_mod, sid_ne1, sid_ne2, sid_inj, sL_length]; first | done | rfl | (simp; done)) | assumption | rfl)) ?_
  intro (k, u, fc, kd, v, y, z) sa ⟨h2a, r2a, h7a, r7a, r58a, h4a, r13a, h6a, h8a, r30a, h9a, hIa⟩
  obtain ⟨hk, hfc⟩ := hIa
  have hfl : (facs (ps.take k)).length = k := by unfold facs; simp; omega
  have hr1 : [chr n, rest].getD 1 ⟨#[]⟩ = rest := rfl
  rcases hfc with ⟨rfl, rfl⟩ | ⟨h0, rfl, rfl⟩
  · simp (maxSteps := 5000000) -dsimp only [↓gp, gq, reduceCtorEq, Nat.reduceEqDiff, Nat.reduceLT, Nat.reduceLeDiff, Nat.reduceAdd, Nat.reduceMul, Nat.reduceSub, Nat.reduceBEq, Int.reduceToNat, Int.reduceLE, Int.reduceLT, Int.reduceNeg, Nat.reduceMod, sid_ne1, sid_ne2, sid_inj, sid_mod, gT, TK.isInt, TK.agg, Array.toList, h2a, r2a, h7a, r7a, r58a, h4a, r13a, h6a, h8a, r30a, h9a, sL_length, hr1, h.full]
    refine ⟨fun hlt => ⟨by omega, hlt, hlt, askK_of (c_spec_ParseSet _ (h.sets _ (getD_mem ⟨#[]⟩ hlt))) ?_⟩, fun hge => absurd h.pne hge⟩
    simp (maxSteps := 5000000) -dsimp only [↓gp, gq, reduceCtorEq, Nat.reduceEqDiff, Nat.reduceLT, Nat.reduceLeDiff, Nat.reduceAdd, Nat.reduceMul, Nat.reduceSub, Nat.reduceBEq, Int.reduceToNat, Int.reduceLE, Int.reduceLT, Int.reduceNeg, Nat.reduceMod, sid_ne1, sid_ne2, sid_inj, sid_mod, gT, TK.isInt, TK.agg, Array.toList, h2a, r2a, h7a, r7a, r58a, h4a, r13a, h6a, h8a, r30a, h9a, sL_length]
    have hf1 : facs (ps.take 1) = [((setV (ps.getD 0 ⟨#[]⟩) (ps.getD 0 ⟨#[]⟩).size : Nat) : Int)] := facs_take hlt
    exact again_of ((1, u + 1, .own 58 (u + 1), .sli 3 1 false (iL (facs (ps.take 1))), v, y, z)) (by refine ⟨?_, ?_, ?_, ?_, ?_, ?_, ?_, ?_, ?_, ?_, ?_, ⟨by omega, Or.inr ⟨by omega, rfl, rfl⟩⟩⟩ <;> (first | (simp (maxSteps := 5000000) -dsimp only [gr, Nat.reduceEqDiff, Nat.reduceLT, Nat.reduceAdd, Nat.reduceMod, Nat.reduceBEq, sid_mod, sid_ne1, sid_ne2, sid_inj, h2a, r2a, h7a, r7a, r58a, h4a, r13a, h6a, h8a, r30a, h9a, hf1]; first | done | rfl | (simp; done)) | assumption | rfl)) (by first | omega | (simp only; omega) | (dsimp only; omega) | (show _ < _; simp; omega))
  · simp (maxSteps := 5000000) -dsimp only [↓gp, gq, reduceCtorEq, Nat.reduceEqDiff, Nat.reduceLT, Nat.reduceLeDiff, Nat.reduceAdd, Nat.reduceMul, Nat.reduceSub, Nat.reduceBEq, Int.reduceToNat, Int.reduceLE, Int.reduceLT, Int.reduceNeg, Nat.reduceMod, sid_ne1, sid_ne2, sid_inj, sid_mod, gT, TK.isInt, TK.agg, Array.toList, h2a, r2a, h7a, r7a, r58a, h4a, r13a, h6a, h8a, r30a, h9a, sL_length, iL_length, hfl, hr1, h.full]
    refine ⟨fun hlt => ⟨by omega, hlt, hlt, askK_of (c_spec_ParseSet _ (h.sets _ (getD_mem ⟨#[]⟩ hlt))) ?_⟩, fun hge => ?_⟩
    · simp (maxSteps := 5000000) -dsimp only [↓gp, gq, reduceCtorEq, Nat.reduceEqDiff, Nat.reduceLT, Nat.reduceLeDiff, Nat.reduceAdd, Nat.reduceMul, Nat.reduceSub, Nat.reduceBEq, Int.reduceToNat, Int.reduceLE, Int.reduceLT, Int.reduceNeg, Nat.reduceMod, sid_ne1, sid_ne2, sid_inj, sid_mod, gT, TK.isInt, TK.agg, Array.toList, h2a, r2a, h7a, r7a, r58a, h4a, r13a, h6a, h8a, r30a, h9a, sL_length, hfl]
      have hpl := h.plen
      refine ⟨by omega, ?_⟩
      exact again_of ((k + 1, u + 1, .own 58 (u + 1), .sli 3 1 false (iL (facs (ps.take (k + 1)))), v, y, z)) (by refine ⟨?_, ?_, ?_, ?_, ?_, ?_, ?_, ?_, ?_, ?_, ?_, ⟨by omega, Or.inr ⟨by omega, rfl, rfl⟩⟩⟩ <;> (first | (simp (maxSteps := 5000000) -dsimp only [gr, Nat.reduceEqDiff, Nat.reduceLT, Nat.reduceAdd, Nat.reduceMod, Nat.reduceBEq, sid_mod, sid_ne1, sid_ne2, sid_inj, h2a, r2a, h7a, r7a, r58a, h4a, r13a, h6a, h8a, r30a, h9a, facs_take hlt, wrap_nat hlt (by omega)]; first | done | rfl | (simp; done)) | assumption | rfl)) (by first | omega | (simp only; omega) | (dsimp only; omega) | (show _ < _; simp; omega))
    · obtain rfl : k = ps.length := by omega
      rw [List.take_length]
      have hcx := isCx_yes h.cx
      refine askK_of (c_spec_IsComplex n (facs ps)) ?_
      simp (maxSteps := 5000000) -dsimp only [↓gp, gq, reduceCtorEq, Nat.reduceEqDiff, Nat.reduceLT, Nat.reduceLeDiff, Nat.reduceAdd, Nat.reduceMul, Nat.reduceSub, Nat.reduceBEq, Int.reduceToNat, Int.reduceLE, Int.reduceLT, Int.reduceNeg, Nat.reduceMod, sid_ne1, sid_ne2, sid_inj, sid_mod, gT, TK.isInt, TK.agg, Array.toList, h2a, r2a, h7a, r7a, r58a, h4a, r13a, h6a, h8a, r30a, h9a, hcx, hfl, List.take_length]
end Go.Proofs.Ytlapkhmehcnjeaa

namespace Go.Proofs.Ytlapkhmehcnjeaa
open Go.Abs
set_option linter.unusedSimpArgs false
set_option linter.unusedVariables false

/-- A complex, checked by counting bits. -/
def cx6 (n : Nat) (l : List Nat) : Bool := decide (1 ≤ n) && decide (n ≤ 6) && (List.range l.length).all fun k =>
  decide (l.getD k 0 < 2 ^ n) && (decide (k = 0) || (if pop6 (l.getD (k - 1) 0) = pop6 (l.getD k 0) then decide (l.getD (k - 1) 0 < l.getD k 0) else decide (pop6 (l.getD (k - 1) 0) < pop6 (l.getD k 0)))) &&
  (List.range k).all fun i => !(l.getD i 0 &&& l.getD k 0 == l.getD i 0)
theorem ofN_at {l : List Nat} {k : Nat} (h : k < l.length) : (ofN l).getD k 0 = ((l.getD k 0 : Nat) : Int) := ofN_getD h
theorem cx6_ok {n : Nat} {l : List Nat} (h : cx6 n l = true) : cxP n (ofN l) := by
  unfold cx6 at h
  simp only [Bool.and_eq_true, decide_eq_true_eq, List.all_eq_true, List.mem_range, Bool.or_eq_true, Bool.not_eq_true'] at h
  obtain ⟨⟨h1, h6⟩, hall⟩ := h
  refine ⟨by omega, by omega, fun k hk => ?_⟩
  rw [ofN_length] at hk
  obtain ⟨⟨ha, hb⟩, hc⟩ := hall k hk
  have hp := two_pow_le h6
  have hk64 : l.getD k 0 < 64 := by omega
  have at64 : ∀ i, i < l.length → l.getD i 0 < 64 := fun i hi => by have := (hall i hi).1.1; omega
  refine ⟨?_, fun h0 => ?_, fun i hi => ?_⟩
  · rw [ofN_at hk]
    unfold inSet
    refine decide_eq_true ⟨by omega, by omega, by omega, ?_⟩
    rw [pow_nat]
    omega
  · have hb := hb.resolve_left (by omega)
    have hj64 := at64 (k - 1) (by omega)
    rw [ofN_at hk, ofN_at (show k - 1 < l.length by omega)]
    generalize l.getD (k - 1) 0 = a at *
    generalize l.getD k 0 = b at *
    have ea : szOf (a : Int) = (pop6 a : Nat) := by rw [szOf, if_pos (by omega), Int.toNat_natCast, popN_6 hj64]
    have eb : szOf (b : Int) = (pop6 b : Nat) := by rw [szOf, if_pos (by omega), Int.toNat_natCast, popN_6 hk64]
    unfold befS
    rw [ea, eb, decide_eq_true (show (0 : Int) ≤ a ∧ (a : Int) < 64 by omega), decide_eq_true (show (0 : Int) ≤ b ∧ (b : Int) < 64 by omega)]
    simp only [Bool.true_and]
    by_cases he : pop6 a = pop6 b
    · rw [if_pos he] at hb
      rw [if_pos (by omega)]
      exact decide_eq_true (by have := of_decide_eq_true hb; omega)
    · rw [if_neg he] at hb
      rw [if_neg (by omega)]
      exact decide_eq_true (by have := of_decide_eq_true hb; omega)
  · have hq := hc i hi
    have hi64 := at64 i (by omega)
    rw [ofN_at hk, ofN_at (show i < l.length by omega), iand_nat (by omega) (by omega)]
    intro e
    have e : l.getD i 0 &&& l.getD k 0 = l.getD i 0 := Int.ofNat.inj e
    rw [e] at hq
    simp at hq
theorem facs_ofN (ps : List ByteArray) : facs ps = ofN (ps.map fun p => setV p p.size) := by
  unfold facs ofN
  rw [List.map_map]; rfl
/-- All but the sets' checks are plain sums. -/
theorem okText {t rest : ByteArray} {n : Nat} {ps : List ByteArray} (size : decide (2 ≤ t.size ∧ t.size ≤ 1000) = true) (pts : decide (1 ≤ n ∧ n ≤ 6) = true) (b0 : byt t 0 = 48 + n) (b1 : byt t 1 = 58) (tail : t.extract 2 t.size = rest)
    (rsize : decide (rest.size ≤ 1000) = true) (full : (rest.toList == (⟨#[]⟩ : ByteArray).toList) = false) (parts : splitB rest 44 = ps) (plen : decide (0 < ps.length ∧ ps.length ≤ 1000) = true) (sets : ps.all okSet = true)
    (head : splitB t 58 = [chr n, rest]) (cx : cx6 n (ps.map fun p => setV p p.size) = true) : OkText t n rest ps :=
  ⟨of_decide_eq_true size, of_decide_eq_true pts, b0, b1, tail, of_decide_eq_true rsize, full, parts, (of_decide_eq_true plen).2, (of_decide_eq_true plen).1, fun p hp => okSet_ok (List.all_eq_true.1 sets p hp), head, by rw [facs_ofN]; exact cx6_ok cx⟩
def ex1 : ByteArray := ⟨#[52, 58, 97, 98, 99, 44, 97, 98, 100, 44, 97, 99, 100, 44, 98, 99, 100]⟩
def ps1 : List ByteArray := [⟨#[97, 98, 99]⟩, ⟨#[97, 98, 100]⟩, ⟨#[97, 99, 100]⟩, ⟨#[98, 99, 100]⟩]
theorem okt1 : OkText ex1 4 ⟨#[97, 98, 99, 44, 97, 98, 100, 44, 97, 99, 100, 44, 98, 99, 100]⟩ ps1 := okText (by kernel_rfl) (by kernel_rfl) (by kernel_rfl) (by kernel_rfl) (by kernel_rfl) (by kernel_rfl) (by kernel_rfl) (by kernel_rfl) (by kernel_rfl) (by kernel_rfl) (by kernel_rfl) (by kernel_rfl)
def ex2 : ByteArray := ⟨#[54, 58, 97, 99, 100, 44, 98, 99, 100, 44, 97, 98, 101, 44, 97, 99, 101, 44, 98, 100, 101, 44, 97, 98, 102, 44, 98, 99, 102, 44, 97, 100, 102, 44, 99, 101, 102, 44, 100, 101, 102]⟩
def ps2 : List ByteArray := [⟨#[97, 99, 100]⟩, ⟨#[98, 99, 100]⟩, ⟨#[97, 98, 101]⟩, ⟨#[97, 99, 101]⟩, ⟨#[98, 100, 101]⟩, ⟨#[97, 98, 102]⟩, ⟨#[98, 99, 102]⟩, ⟨#[97, 100, 102]⟩, ⟨#[99, 101, 102]⟩, ⟨#[100, 101, 102]⟩]
theorem okt2 : OkText ex2 6 ⟨#[97, 99, 100, 44, 98, 99, 100, 44, 97, 98, 101, 44, 97, 99, 101, 44, 98, 100, 101, 44, 97, 98, 102, 44, 98, 99, 102, 44, 97, 100, 102, 44, 99, 101, 102, 44, 100, 101, 102]⟩ ps2 := okText (by kernel_rfl) (by kernel_rfl) (by kernel_rfl) (by kernel_rfl) (by kernel_rfl) (by kernel_rfl) (by kernel_rfl) (by kernel_rfl) (by kernel_rfl) (by kernel_rfl) (by kernel_rfl) (by kernel_rfl)
def ex3 : ByteArray := ⟨#[53, 58, 97, 98, 44, 98, 99, 44, 99, 100, 44, 97, 101, 44, 100, 101]⟩
def ps3 : List ByteArray := [⟨#[97, 98]⟩, ⟨#[98, 99]⟩, ⟨#[99, 100]⟩, ⟨#[97, 101]⟩, ⟨#[100, 101]⟩]
theorem okt3 : OkText ex3 5 ⟨#[97, 98, 44, 98, 99, 44, 99, 100, 44, 97, 101, 44, 100, 101]⟩ ps3 := okText (by kernel_rfl) (by kernel_rfl) (by kernel_rfl) (by kernel_rfl) (by kernel_rfl) (by kernel_rfl) (by kernel_rfl) (by kernel_rfl) (by kernel_rfl) (by kernel_rfl) (by kernel_rfl) (by kernel_rfl)
def ex4 : ByteArray := ⟨#[53, 58, 97, 98, 99, 44, 99, 100, 101]⟩
def ps4 : List ByteArray := [⟨#[97, 98, 99]⟩, ⟨#[99, 100, 101]⟩]
theorem okt4 : OkText ex4 5 ⟨#[97, 98, 99, 44, 99, 100, 101]⟩ ps4 := okText (by kernel_rfl) (by kernel_rfl) (by kernel_rfl) (by kernel_rfl) (by kernel_rfl) (by kernel_rfl) (by kernel_rfl) (by kernel_rfl) (by kernel_rfl) (by kernel_rfl) (by kernel_rfl) (by kernel_rfl)
def ex5 : ByteArray := ⟨#[54, 58, 97, 98, 99, 44, 97, 99, 100, 44, 97, 98, 101, 44, 97, 100, 101, 44, 98, 99, 102, 44, 99, 100, 102, 44, 98, 101, 102, 44, 100, 101, 102]⟩
def ps5 : List ByteArray := [⟨#[97, 98, 99]⟩, ⟨#[97, 99, 100]⟩, ⟨#[97, 98, 101]⟩, ⟨#[97, 100, 101]⟩, ⟨#[98, 99, 102]⟩, ⟨#[99, 100, 102]⟩, ⟨#[98, 101, 102]⟩, ⟨#[100, 101, 102]⟩]
theorem okt5 : OkText ex5 6 ⟨#[97, 98, 99, 44, 97, 99, 100, 44, 97, 98, 101, 44, 97, 100, 101, 44, 98, 99, 102, 44, 99, 100, 102, 44, 98, 101, 102, 44, 100, 101, 102]⟩ ps5 := okText (by kernel_rfl) (by kernel_rfl) (by kernel_rfl) (by kernel_rfl) (by kernel_rfl) (by kernel_rfl) (by kernel_rfl) (by kernel_rfl) (by kernel_rfl) (by kernel_rfl) (by kernel_rfl) (by kernel_rfl)
def ex6 : ByteArray := ⟨#[54, 58, 97, 98, 44, 99, 100, 44, 101, 102]⟩
def ps6 : List ByteArray := [⟨#[97, 98]⟩, ⟨#[99, 100]⟩, ⟨#[101, 102]⟩]
theorem okt6 : OkText ex6 6 ⟨#[97, 98, 44, 99, 100, 44, 101, 102]⟩ ps6 := okText (by kernel_rfl) (by kernel_rfl) (by kernel_rfl) (by kernel_rfl) (by kernel_rfl) (by kernel_rfl) (by kernel_rfl) (by kernel_rfl) (by kernel_rfl) (by kernel_rfl) (by kernel_rfl) (by kernel_rfl)
def ex7 : ByteArray := ⟨#[52, 58, 97, 98, 44, 98, 99, 44, 99, 100]⟩
def ps7 : List ByteArray := [⟨#[97, 98]⟩, ⟨#[98, 99]⟩, ⟨#[99, 100]⟩]
theorem okt7 : OkText ex7 4 ⟨#[97, 98, 44, 98, 99, 44, 99, 100]⟩ ps7 := okText (by kernel_rfl) (by kernel_rfl) (by kernel_rfl) (by kernel_rfl) (by kernel_rfl) (by kernel_rfl) (by kernel_rfl) (by kernel_rfl) (by kernel_rfl) (by kernel_rfl) (by kernel_rfl) (by kernel_rfl)
def ex8 : ByteArray := ⟨#[53, 58, 97, 98, 99, 44, 97, 98, 100, 44, 99, 100, 101]⟩
def ps8 : List ByteArray := [⟨#[97, 98, 99]⟩, ⟨#[97, 98, 100]⟩, ⟨#[99, 100, 101]⟩]
theorem okt8 : OkText ex8 5 ⟨#[97, 98, 99, 44, 97, 98, 100, 44, 99, 100, 101]⟩ ps8 := okText (by kernel_rfl) (by kernel_rfl) (by kernel_rfl) (by kernel_rfl) (by kernel_rfl) (by kernel_rfl) (by kernel_rfl) (by kernel_rfl) (by kernel_rfl) (by kernel_rfl) (by kernel_rfl) (by kernel_rfl)
def exText (k : Int) : ByteArray := if k = 1 then ex1 else if k = 2 then ex2 else if k = 3 then ex3 else if k = 4 then ex4 else if k = 5 then ex5 else if k = 6 then ex6 else if k = 7 then ex7 else if k = 8 then ex8 else ⟨#[]⟩
def exPts (k : Int) : Nat := if k = 1 then 4 else if k = 2 then 6 else if k = 3 then 5 else if k = 4 then 5 else if k = 5 then 6 else if k = 6 then 6 else if k = 7 then 4 else if k = 8 then 5 else 0
def exPs (k : Int) : List ByteArray := if k = 1 then ps1 else if k = 2 then ps2 else if k = 3 then ps3 else if k = 4 then ps4 else if k = 5 then ps5 else if k = 6 then ps6 else if k = 7 then ps7 else if k = 8 then ps8 else []
theorem exText_out {k : Int} (h : ¬ (1 ≤ k ∧ k ≤ 8)) : exText k = ⟨#[]⟩ := by
  unfold exText
  rw [if_neg (by omega)]
  rw [if_neg (by omega)]
  rw [if_neg (by omega)]
  rw [if_neg (by omega)]
  rw [if_neg (by omega)]
  rw [if_neg (by omega)]
  rw [if_neg (by omega)]
  rw [if_neg (by omega)]
theorem exPts_out {k : Int} (h : ¬ (1 ≤ k ∧ k ≤ 8)) : exPts k = 0 := by
  unfold exPts
  rw [if_neg (by omega)]
  rw [if_neg (by omega)]
  rw [if_neg (by omega)]
  rw [if_neg (by omega)]
  rw [if_neg (by omega)]
  rw [if_neg (by omega)]
  rw [if_neg (by omega)]
  rw [if_neg (by omega)]
theorem exPs_out {k : Int} (h : ¬ (1 ≤ k ∧ k ≤ 8)) : exPs k = [] := by
  unfold exPs
  rw [if_neg (by omega)]
  rw [if_neg (by omega)]
  rw [if_neg (by omega)]
  rw [if_neg (by omega)]
  rw [if_neg (by omega)]
  rw [if_neg (by omega)]
  rw [if_neg (by omega)]
  rw [if_neg (by omega)]
theorem exText_in {k : Int} (h : 1 ≤ k ∧ k ≤ 8) : ∃ rest, OkText (exText k) (exPts k) rest (exPs k) := by
  have : k = 1 ∨ k = 2 ∨ k = 3 ∨ k = 4 ∨ k = 5 ∨ k = 6 ∨ k = 7 ∨ k = 8 := by omega
  rcases this with rfl | rfl | rfl | rfl | rfl | rfl | rfl | rfl
  · exact ⟨_, okt1⟩
  · exact ⟨_, okt2⟩
  · exact ⟨_, okt3⟩
  · exact ⟨_, okt4⟩
  · exact ⟨_, okt5⟩
  · exact ⟨_, okt6⟩
  · exact ⟨_, okt7⟩
  · exact ⟨_, okt8⟩
theorem ex_eq {k j : Int} {b : ByteArray} (e : (k == j) = true) (h : exText j = b) : exText k = b := by rw [beq_iff_eq.1 e]; exact h
theorem c_impl_ExampleText (k : Int) : AC Try.prog 84 [int k] (.im (str (exText k))) := by
  refine AC.go (rs := [.tmp 2]) T_ok mixed Try.func84 rfl rfl rfl (by kernel_rfl) fun hl => ?_
  simp (maxSteps := 5000000) -dsimp only [↓gp, gq, reduceCtorEq, Nat.reduceEqDiff, Nat.reduceLT, Nat.reduceLeDiff, Nat.reduceAdd, Nat.reduceMul, Nat.reduceSub, Nat.reduceBEq, Int.reduceToNat, Int.reduceLE, Int.reduceLT, Int.reduceNeg, Nat.reduceMod, sid_ne1, sid_ne2, sid_inj, sid_mod, gT, TK.isInt, TK.agg, Array.toList]
  exact ⟨fun e => ex_eq e rfl, fun n1 => ⟨fun e => ex_eq e rfl, fun n2 => ⟨fun e => ex_eq e rfl, fun n3 => ⟨fun e => ex_eq e rfl, fun n4 => ⟨fun e => ex_eq e rfl, fun n5 => ⟨fun e => ex_eq e rfl, fun n6 => ⟨fun e => ex_eq e rfl, fun n7 => ⟨fun e => ex_eq e rfl, fun n8 => exText_out (by have := beq_eq_false_iff_ne.1 n1; have := beq_eq_false_iff_ne.1 n2; have := beq_eq_false_iff_ne.1 n3; have := beq_eq_false_iff_ne.1 n4; have := beq_eq_false_iff_ne.1 n5; have := beq_eq_false_iff_ne.1 n6; have := beq_eq_false_iff_ne.1 n7; have := beq_eq_false_iff_ne.1 n8; omega)⟩⟩⟩⟩⟩⟩⟩⟩
theorem c_spec_ExampleText (k : Int) : AC Try.prog 82 [int k] (.im (str (exText k))) := by
  refine AC.go (rs := [.tmp 2]) T_ok mixed Try.func82 rfl rfl rfl (by kernel_rfl) fun hl => ?_
  simp (maxSteps := 5000000) -dsimp only [↓gp, gq, reduceCtorEq, Nat.reduceEqDiff, Nat.reduceLT, Nat.reduceLeDiff, Nat.reduceAdd, Nat.reduceMul, Nat.reduceSub, Nat.reduceBEq, Int.reduceToNat, Int.reduceLE, Int.reduceLT, Int.reduceNeg, Nat.reduceMod, sid_ne1, sid_ne2, sid_inj, sid_mod, gT, TK.isInt, TK.agg, Array.toList]
  exact ⟨fun e => ex_eq e rfl, fun n1 => ⟨fun e => ex_eq e rfl, fun n2 => ⟨fun e => ex_eq e rfl, fun n3 => ⟨fun e => ex_eq e rfl, fun n4 => ⟨fun e => ex_eq e rfl, fun n5 => ⟨fun e => ex_eq e rfl, fun n6 => ⟨fun e => ex_eq e rfl, fun n7 => ⟨fun e => ex_eq e rfl, fun n8 => exText_out (by have := beq_eq_false_iff_ne.1 n1; have := beq_eq_false_iff_ne.1 n2; have := beq_eq_false_iff_ne.1 n3; have := beq_eq_false_iff_ne.1 n4; have := beq_eq_false_iff_ne.1 n5; have := beq_eq_false_iff_ne.1 n6; have := beq_eq_false_iff_ne.1 n7; have := beq_eq_false_iff_ne.1 n8; omega)⟩⟩⟩⟩⟩⟩⟩⟩
theorem c_impl_ParseComplex_0 : AC Try.prog 83 [str ⟨#[]⟩] (.tup [.ag [.im (int 0), .fr 3 1 (iL [])], .im (bool false)]) := by
  refine AC.go (rs := [.cell 2 24, .tmp 3]) T_ok mixed Try.func83 rfl rfl rfl (by kernel_rfl) fun hl => ?_
  simp (maxSteps := 5000000) -dsimp only [↓gp, gq, reduceCtorEq, Nat.reduceEqDiff, Nat.reduceLT, Nat.reduceLeDiff, Nat.reduceAdd, Nat.reduceMul, Nat.reduceSub, Nat.reduceBEq, Int.reduceToNat, Int.reduceLE, Int.reduceLT, Int.reduceNeg, Nat.reduceMod, sid_ne1, sid_ne2, sid_inj, sid_mod, gT, TK.isInt, TK.agg, Array.toList]
  have h0 : AC Try.prog 116 [str ⟨#[]⟩] (.tup [.im (int 0), .im (str ⟨#[]⟩), .im (bool false)]) := by
    refine AC.go (rs := [.tmp 2, .tmp 3, .tmp 4]) T_ok mixed Try.func116 rfl rfl rfl (by kernel_rfl) fun hl => ?_
    have hz : (((⟨#[]⟩ : ByteArray).size : Nat) : Int) = 0 := rfl
    simp (maxSteps := 5000000) -dsimp only [↓gp, gq, reduceCtorEq, Nat.reduceEqDiff, Nat.reduceLT, Nat.reduceLeDiff, Nat.reduceAdd, Nat.reduceMul, Nat.reduceSub, Nat.reduceBEq, Int.reduceToNat, Int.reduceLE, Int.reduceLT, Int.reduceNeg, Nat.reduceMod, sid_ne1, sid_ne2, sid_inj, sid_mod, gT, TK.isInt, TK.agg, Array.toList, hz]
  refine askK_of h0 ?_
  simp (maxSteps := 5000000) -dsimp only [↓gp, gq, reduceCtorEq, Nat.reduceEqDiff, Nat.reduceLT, Nat.reduceLeDiff, Nat.reduceAdd, Nat.reduceMul, Nat.reduceSub, Nat.reduceBEq, Int.reduceToNat, Int.reduceLE, Int.reduceLT, Int.reduceNeg, Nat.reduceMod, sid_ne1, sid_ne2, sid_inj, sid_mod, gT, TK.isInt, TK.agg, Array.toList, adopt_tvvv]
  rfl
theorem c_spec_ParseComplex_0 : AC Try.prog 81 [str ⟨#[]⟩] (.tup [.ag [.im (int 0), .fr 3 1 (iL [])], .im (bool false)]) := by
  refine AC.go (rs := [.cell 2 24, .tmp 3]) T_ok mixed Try.func81 rfl rfl rfl (by kernel_rfl) fun hl => ?_
  simp (maxSteps := 5000000) -dsimp only [↓gp, gq, reduceCtorEq, Nat.reduceEqDiff, Nat.reduceLT, Nat.reduceLeDiff, Nat.reduceAdd, Nat.reduceMul, Nat.reduceSub, Nat.reduceBEq, Int.reduceToNat, Int.reduceLE, Int.reduceLT, Int.reduceNeg, Nat.reduceMod, sid_ne1, sid_ne2, sid_inj, sid_mod, gT, TK.isInt, TK.agg, Array.toList]
  refine askK_of (c_spec_SplitByte ⟨#[]⟩ 58 (by decide)) ?_
  have hz : (((splitB ⟨#[]⟩ 58).length : Nat) : Int) = 1 := rfl
  have hz2 : ((1 : Int) != 2) = true := rfl
  simp (maxSteps := 5000000) -dsimp only [↓gp, gq, reduceCtorEq, Nat.reduceEqDiff, Nat.reduceLT, Nat.reduceLeDiff, Nat.reduceAdd, Nat.reduceMul, Nat.reduceSub, Nat.reduceBEq, Int.reduceToNat, Int.reduceLE, Int.reduceLT, Int.reduceNeg, Nat.reduceMod, sid_ne1, sid_ne2, sid_inj, sid_mod, gT, TK.isInt, TK.agg, Array.toList, sL_length, hz, hz2]
  rfl
theorem c_impl_ExampleComplex (k : Int) : AC Try.prog 54 [int k] (.tup [.ag [.im (int (exPts k)), .fr 3 1 (iL (facs (exPs k)))], .im (bool (decide (1 ≤ k ∧ k ≤ 8)))]) := by
  refine AC.go (rs := [.cell 2 24, .tmp 3]) T_ok mixed Try.func54 rfl rfl rfl (by kernel_rfl) fun hl => ?_
  simp (maxSteps := 5000000) -dsimp only [↓gp, gq, reduceCtorEq, Nat.reduceEqDiff, Nat.reduceLT, Nat.reduceLeDiff, Nat.reduceAdd, Nat.reduceMul, Nat.reduceSub, Nat.reduceBEq, Int.reduceToNat, Int.reduceLE, Int.reduceLT, Int.reduceNeg, Nat.reduceMod, sid_ne1, sid_ne2, sid_inj, sid_mod, gT, TK.isInt, TK.agg, Array.toList]
  refine askK_of (c_impl_ExampleText k) ?_
  by_cases h : 1 ≤ k ∧ k ≤ 8
  · obtain ⟨rest, ht⟩ := exText_in h
    rw [decide_eq_true h]
    simp (maxSteps := 5000000) -dsimp only [↓gp, gq, reduceCtorEq, Nat.reduceEqDiff, Nat.reduceLT, Nat.reduceLeDiff, Nat.reduceAdd, Nat.reduceMul, Nat.reduceSub, Nat.reduceBEq, Int.reduceToNat, Int.reduceLE, Int.reduceLT, Int.reduceNeg, Nat.reduceMod, sid_ne1, sid_ne2, sid_inj, sid_mod, gT, TK.isInt, TK.agg, Array.toList]
    refine askK_of (c_impl_ParseComplex ht) ?_
    simp (maxSteps := 5000000) -dsimp only [↓gp, gq, reduceCtorEq, Nat.reduceEqDiff, Nat.reduceLT, Nat.reduceLeDiff, Nat.reduceAdd, Nat.reduceMul, Nat.reduceSub, Nat.reduceBEq, Int.reduceToNat, Int.reduceLE, Int.reduceLT, Int.reduceNeg, Nat.reduceMod, sid_ne1, sid_ne2, sid_inj, sid_mod, gT, TK.isInt, TK.agg, Array.toList]
  · rw [exText_out h, exPts_out h, exPs_out h, decide_eq_false h]
    simp (maxSteps := 5000000) -dsimp only [↓gp, gq, reduceCtorEq, Nat.reduceEqDiff, Nat.reduceLT, Nat.reduceLeDiff, Nat.reduceAdd, Nat.reduceMul, Nat.reduceSub, Nat.reduceBEq, Int.reduceToNat, Int.reduceLE, Int.reduceLT, Int.reduceNeg, Nat.reduceMod, sid_ne1, sid_ne2, sid_inj, sid_mod, gT, TK.isInt, TK.agg, Array.toList]
    refine askK_of c_impl_ParseComplex_0 ?_
    simp (maxSteps := 5000000) -dsimp only [↓gp, gq, reduceCtorEq, Nat.reduceEqDiff, Nat.reduceLT, Nat.reduceLeDiff, Nat.reduceAdd, Nat.reduceMul, Nat.reduceSub, Nat.reduceBEq, Int.reduceToNat, Int.reduceLE, Int.reduceLT, Int.reduceNeg, Nat.reduceMod, sid_ne1, sid_ne2, sid_inj, sid_mod, gT, TK.isInt, TK.agg, Array.toList, facs, List.map_nil]
    rfl
theorem c_spec_ExampleComplex (k : Int) : AC Try.prog 52 [int k] (.tup [.ag [.im (int (exPts k)), .fr 3 1 (iL (facs (exPs k)))], .im (bool (decide (1 ≤ k ∧ k ≤ 8)))]) := by
  refine AC.go (rs := [.cell 2 24, .tmp 3]) T_ok mixed Try.func52 rfl rfl rfl (by kernel_rfl) fun hl => ?_
  simp (maxSteps := 5000000) -dsimp only [↓gp, gq, reduceCtorEq, Nat.reduceEqDiff, Nat.reduceLT, Nat.reduceLeDiff, Nat.reduceAdd, Nat.reduceMul, Nat.reduceSub, Nat.reduceBEq, Int.reduceToNat, Int.reduceLE, Int.reduceLT, Int.reduceNeg, Nat.reduceMod, sid_ne1, sid_ne2, sid_inj, sid_mod, gT, TK.isInt, TK.agg, Array.toList]
  refine askK_of (c_spec_ExampleText k) ?_
  by_cases h : 1 ≤ k ∧ k ≤ 8
  · obtain ⟨rest, ht⟩ := exText_in h
    rw [decide_eq_true h]
    simp (maxSteps := 5000000) -dsimp only [↓gp, gq, reduceCtorEq, Nat.reduceEqDiff, Nat.reduceLT, Nat.reduceLeDiff, Nat.reduceAdd, Nat.reduceMul, Nat.reduceSub, Nat.reduceBEq, Int.reduceToNat, Int.reduceLE, Int.reduceLT, Int.reduceNeg, Nat.reduceMod, sid_ne1, sid_ne2, sid_inj, sid_mod, gT, TK.isInt, TK.agg, Array.toList]
    refine askK_of (c_spec_ParseComplex ht) ?_
    simp (maxSteps := 5000000) -dsimp only [↓gp, gq, reduceCtorEq, Nat.reduceEqDiff, Nat.reduceLT, Nat.reduceLeDiff, Nat.reduceAdd, Nat.reduceMul, Nat.reduceSub, Nat.reduceBEq, Int.reduceToNat, Int.reduceLE, Int.reduceLT, Int.reduceNeg, Nat.reduceMod, sid_ne1, sid_ne2, sid_inj, sid_mod, gT, TK.isInt, TK.agg, Array.toList]
  · rw [exText_out h, exPts_out h, exPs_out h, decide_eq_false h]
    simp (maxSteps := 5000000) -dsimp only [↓gp, gq, reduceCtorEq, Nat.reduceEqDiff, Nat.reduceLT, Nat.reduceLeDiff, Nat.reduceAdd, Nat.reduceMul, Nat.reduceSub, Nat.reduceBEq, Int.reduceToNat, Int.reduceLE, Int.reduceLT, Int.reduceNeg, Nat.reduceMod, sid_ne1, sid_ne2, sid_inj, sid_mod, gT, TK.isInt, TK.agg, Array.toList]
    refine askK_of c_spec_ParseComplex_0 ?_
    simp (maxSteps := 5000000) -dsimp only [↓gp, gq, reduceCtorEq, Nat.reduceEqDiff, Nat.reduceLT, Nat.reduceLeDiff, Nat.reduceAdd, Nat.reduceMul, Nat.reduceSub, Nat.reduceBEq, Int.reduceToNat, Int.reduceLE, Int.reduceLT, Int.reduceNeg, Nat.reduceMod, sid_ne1, sid_ne2, sid_inj, sid_mod, gT, TK.isInt, TK.agg, Array.toList, facs, List.map_nil]
    rfl
theorem c_laws_markComplex (n : Int) (xs : List Int) (k : Int) (hx : xs.length ≤ 1152921504606846976) (k0 : 0 ≤ k) (k1 : k ≤ 1152921504606846976) : AM Try.prog 35 [.ag [int n, .own 1000000 1], int k] [⟨3, 1, iL xs⟩] [iL (mks k xs.length)] (.int .i64 (k + xs.length)) := by
  refine AM.go (rs := [.tmp 4]) T_ok mixed Try.func35 rfl rfl rfl (by kernel_rfl) (plainR_cons (plain_iL _) plainR_nil) (plains_cons (plain_iL _) plains_nil) rfl fun hl => ?_
  simp (maxSteps := 5000000) -dsimp only [↓gp, gq, reduceCtorEq, Nat.reduceEqDiff, Nat.reduceLT, Nat.reduceLeDiff, Nat.reduceAdd, Nat.reduceMul, Nat.reduceSub, Nat.reduceBEq, Int.reduceToNat, Int.reduceLE, Int.reduceLT, Int.reduceNeg, Nat.reduceMod, sid_ne1, sid_ne2, sid_inj, sid_mod, gT, TK.isInt, TK.agg, Array.toList]
  refine askM_of (c_laws_markIntS xs k hx k0 k1) [(1000000, 1)] (by repeat (first | exact GiveL.nil | refine GiveL.v ?_ | refine GiveL.own 0 rfl ?_ | refine GiveL.own 1 rfl ?_ | refine GiveL.ag ?_ ?_)) ⟨by simp (maxSteps := 5000000) -dsimp only [gr, Nat.reduceEqDiff, Nat.reduceLT, Nat.reduceAdd, Nat.reduceMod, Nat.reduceBEq, sid_mod, sid_ne1, sid_ne2, sid_inj], trivial⟩ (by decide) ?_
  simp (maxSteps := 5000000) -dsimp only [↓gp, gq, reduceCtorEq, Nat.reduceEqDiff, Nat.reduceLT, Nat.reduceLeDiff, Nat.reduceAdd, Nat.reduceMul, Nat.reduceSub, Nat.reduceBEq, Int.reduceToNat, Int.reduceLE, Int.reduceLT, Int.reduceNeg, Nat.reduceMod, sid_ne1, sid_ne2, sid_inj, sid_mod, gT, TK.isInt, TK.agg, Array.toList]
theorem c_laws_heldComplex (m : Int) (k : Int) (n : Nat) (hn : n ≤ 1152921504606846976) (k0 : 0 ≤ k) (k1 : k ≤ 1152921504606846976) : AC Try.prog 55 [.ag [int m, ints (mks k n)], int k] (.im (int (k + n))) := by
  refine AC.go (rs := [.tmp 4]) T_ok mixed Try.func55 rfl rfl rfl (by kernel_rfl) fun hl => ?_
  simp (maxSteps := 5000000) -dsimp only [↓gp, gq, reduceCtorEq, Nat.reduceEqDiff, Nat.reduceLT, Nat.reduceLeDiff, Nat.reduceAdd, Nat.reduceMul, Nat.reduceSub, Nat.reduceBEq, Int.reduceToNat, Int.reduceLE, Int.reduceLT, Int.reduceNeg, Nat.reduceMod, sid_ne1, sid_ne2, sid_inj, sid_mod, gT, TK.isInt, TK.agg, Array.toList]
  refine askK_of (c_laws_heldIntS k n hn k0 k1) ?_
  simp (maxSteps := 5000000) -dsimp only [↓gp, gq, reduceCtorEq, Nat.reduceEqDiff, Nat.reduceLT, Nat.reduceLeDiff, Nat.reduceAdd, Nat.reduceMul, Nat.reduceSub, Nat.reduceBEq, Int.reduceToNat, Int.reduceLE, Int.reduceLT, Int.reduceNeg, Nat.reduceMod, sid_ne1, sid_ne2, sid_inj, sid_mod, gT, TK.isInt, TK.agg, Array.toList]
  intro h
  omega
theorem c_laws_eqComplex (n m : Int) (xs ys : List Int) : AC Try.prog 23 [.ag [int n, ints xs], .ag [int m, ints ys]] (.im (bool (sameG n xs m ys))) := by
  refine AC.go (rs := [.tmp 4]) T_ok mixed Try.func23 rfl rfl rfl (by kernel_rfl) fun hl => ?_
  simp (maxSteps := 5000000) -dsimp only [↓gp, gq, reduceCtorEq, Nat.reduceEqDiff, Nat.reduceLT, Nat.reduceLeDiff, Nat.reduceAdd, Nat.reduceMul, Nat.reduceSub, Nat.reduceBEq, Int.reduceToNat, Int.reduceLE, Int.reduceLT, Int.reduceNeg, Nat.reduceMod, sid_ne1, sid_ne2, sid_inj, sid_mod, gT, TK.isInt, TK.agg, Array.toList]
  unfold sameG
  refine ⟨fun h => ?_, fun h => askK_of (c_laws_eqIntS xs ys) ?_⟩
  · simp at h
    simp [h]
  · simp (maxSteps := 5000000) -dsimp only [↓gp, gq, reduceCtorEq, Nat.reduceEqDiff, Nat.reduceLT, Nat.reduceLeDiff, Nat.reduceAdd, Nat.reduceMul, Nat.reduceSub, Nat.reduceBEq, Int.reduceToNat, Int.reduceLE, Int.reduceLT, Int.reduceNeg, Nat.reduceMod, sid_ne1, sid_ne2, sid_inj, sid_mod, gT, TK.isInt, TK.agg, Array.toList]
    simp at h
    exact ⟨fun h2 => by simpa [h] using h2, fun h2 => by simpa [h] using h2⟩
theorem facsEx_le (k : Int) : (facs (exPs k)).length ≤ 1048576 := by
  by_cases h : 1 ≤ k ∧ k ≤ 8
  · obtain ⟨_, ht⟩ := exText_in h
    have := ht.plen
    unfold facs
    simp
    omega
  · rw [exPs_out h]; decide
end Go.Proofs.Ytlapkhmehcnjeaa

namespace Go.Proofs.Ytlapkhmehcnjeaa
open Go.Abs
set_option linter.unusedSimpArgs false
set_option linter.unusedVariables false

theorem c_laws_szComplex (k : Int) (xs : List Int) (n : Int) (h0 : 0 ≤ n) (h1 : n ≤ 1048576) : AC Try.prog 19 [.ag [int k, ints xs], int n] (.im (int (szI n xs.length))) := by
  refine AC.go (rs := [.tmp 4]) T_ok mixed Try.func19 rfl rfl rfl (by kernel_rfl) fun hl => ?_
  simp (maxSteps := 5000000) -dsimp only [↓gp, gq, reduceCtorEq, Nat.reduceEqDiff, Nat.reduceLT, Nat.reduceLeDiff, Nat.reduceAdd, Nat.reduceMul, Nat.reduceSub, Nat.reduceBEq, Int.reduceToNat, Int.reduceLE, Int.reduceLT, Int.reduceNeg, Nat.reduceMod, sid_ne1, sid_ne2, sid_inj, sid_mod, gT, TK.isInt, TK.agg, Array.toList]
  refine askK_of (c_laws_szIntS xs n h0 h1) ?_
  simp (maxSteps := 5000000) -dsimp only [↓gp, gq, reduceCtorEq, Nat.reduceEqDiff, Nat.reduceLT, Nat.reduceLeDiff, Nat.reduceAdd, Nat.reduceMul, Nat.reduceSub, Nat.reduceBEq, Int.reduceToNat, Int.reduceLE, Int.reduceLT, Int.reduceNeg, Nat.reduceMod, sid_ne1, sid_ne2, sid_inj, sid_mod, gT, TK.isInt, TK.agg, Array.toList]
  have e : (if n - ↑xs.length < 0 then (-1 : Int) else n - ↑xs.length) = szI n xs.length := rfl
  simp only [e]
  refine ⟨fun h => ?_, fun _ => trivial⟩
  unfold szI at h ⊢
  split <;> omega
theorem c_laws_toComplex (n : Int) (xs : List Int) (hx : xs.length ≤ 1048576) : AC Try.prog 21 [.ag [int n, ints xs]] (.ag [.im (int n), .fr 3 1 (iL xs)]) := by
  refine AC.go (rs := [.cell 2 24]) T_ok mixed Try.func21 rfl rfl rfl (by kernel_rfl) fun hl => ?_
  simp (maxSteps := 5000000) -dsimp only [↓gp, gq, reduceCtorEq, Nat.reduceEqDiff, Nat.reduceLT, Nat.reduceLeDiff, Nat.reduceAdd, Nat.reduceMul, Nat.reduceSub, Nat.reduceBEq, Int.reduceToNat, Int.reduceLE, Int.reduceLT, Int.reduceNeg, Nat.reduceMod, sid_ne1, sid_ne2, sid_inj, sid_mod, gT, TK.isInt, TK.agg, Array.toList]
  refine askK_of (c_laws_toIntS xs hx) ?_
  simp (maxSteps := 5000000) -dsimp only [↓gp, gq, reduceCtorEq, Nat.reduceEqDiff, Nat.reduceLT, Nat.reduceLeDiff, Nat.reduceAdd, Nat.reduceMul, Nat.reduceSub, Nat.reduceBEq, Int.reduceToNat, Int.reduceLE, Int.reduceLT, Int.reduceNeg, Nat.reduceMod, sid_ne1, sid_ne2, sid_inj, sid_mod, gT, TK.isInt, TK.agg, Array.toList]
end Go.Proofs.Ytlapkhmehcnjeaa

namespace Go.Proofs.Ytlapkhmehcnjeaa
open Go.Abs
set_option linter.unusedSimpArgs false
set_option linter.unusedVariables false

theorem push_fold : ∀ (l : List UInt8) (a : ByteArray), ((l.map fun x => (x.toNat : Int)).foldl (fun r n => r.push (UInt8.ofNat n.toNat)) a) = ⟨(a.data.toList ++ l).toArray⟩ := by
  intro l
  induction l with
  | nil => intro a; simp
  | cons x l ih =>
    intro a
    rw [List.map_cons, List.foldl_cons, ih]
    have : UInt8.ofNat ((x.toNat : Int)).toNat = x := by simp
    rw [this]
    congr 1
    simp [ByteArray.push]
theorem cvRow_strB (ver e : Nat) (fz : Bool) (b : ByteArray) {Kp : PV → Prop} : cvRow ⟨ver, .sli e 1 fz (strB b)⟩ ver Kp = Kp (.v (.string b)) := by
  unfold cvRow
  simp only [true_and]
  have hb : strB b = (b.data.toList.map fun x => (x.toNat : Int)).map (fun n => PV.v (.int .u8 n)) := by simp [strB]
  have hf := push_fold b.data.toList ByteArray.empty
  have hf : ((b.data.toList.map fun x => (x.toNat : Int)).foldl (fun r n => r.push (UInt8.ofNat n.toNat)) ByteArray.empty) = b := by
    rw [hf]; show (⟨(([] : List UInt8) ++ b.data.toList).toArray⟩ : ByteArray) = b; simp
  refine propext ⟨fun ⟨bs, h1, h2⟩ => ?_, fun h => ⟨_, hb, by rw [hf]; exact h⟩⟩
  rw [hb] at h1
  have : b.data.toList.map (fun x => (x.toNat : Int)) = bs := (List.map_inj_right (fun x y h => by simpa using h)).1 h1
  rw [← this, hf] at h2
  exact h2
theorem strB_append (a b : ByteArray) : strB a ++ strB b = strB (a ++ b) := by
  unfold strB
  rw [← List.map_append, ByteArray.data_append, Array.toList_append]
theorem strB_nil : strB ⟨#[]⟩ = [] := rfl
/-- Texts joined, on the way. -/
def joinP (l : List ByteArray) (sep : ByteArray) : Nat → ByteArray | 0 => ⟨#[]⟩ | i + 1 => (if i = 0 then joinP l sep i else joinP l sep i ++ sep) ++ l.getD i ⟨#[]⟩
theorem c_spec_Join (l : List ByteArray) (sep : ByteArray) (hN : l.length ≤ 1000) (hb : ∀ i, i ≤ l.length → (joinP l sep i).size + sep.size ≤ 1000000) : AC Try.prog 90 [.sl false 1 (sL l), str sep] (.im (str (joinP l sep l.length))) := by
  refine AC.go (rs := [.tmp 4]) T_ok mixed Try.func90 rfl rfl rfl (by kernel_rfl) fun hl => ?_
  simp only [lens_cons, lens_nil, and_true, lens2_ag2, lens1_v, lens1_iL, lens2_iL, lens2_v, true_and] at hl
  simp (maxSteps := 5000000) -dsimp only [↓gp, gq, reduceCtorEq, Nat.reduceEqDiff, Nat.reduceLT, Nat.reduceLeDiff, Nat.reduceAdd, Nat.reduceMul, Nat.reduceSub, Nat.reduceBEq, Int.reduceToNat, Int.reduceLE, Int.reduceLT, Int.reduceNeg, Nat.reduceMod, sid_ne1, sid_ne2, sid_inj, sid_mod, gT, TK.isInt, TK.agg, Array.toList]
  refine loop_of (fun (za : Nat × Nat) s => match za with | (i, v) => s.sl 0 = .sl false 1 (sL l) ∧ s.sl 1 = str sep ∧ s.sl 5 = .own 7 v ∧ s.rw 7 = ⟨v, .sli 5 1 false (strB (joinP l sep i))⟩ ∧ s.sl 6 = int i ∧ (i ≤ l.length)) (fun (i, v) => l.length - i) ((0, 1)) (by refine ⟨?_, ?_, ?_, ?_, ?_, by omega⟩ <;> (first | (simp (maxSteps := 5000000) -dsimp only [gr, Nat.reduceEqDiff, Nat.reduceLT, Nat.reduceAdd, Nat.reduceMod, Nat.reduceBEq, sid_mod, sid_ne1, sid_ne2, sid_inj, joinP, strB_nil]; first | done | rfl | (simp; done)) | assumption | rfl)) ?_
  intro (i, v) sa ⟨h0a, h1a, h5a, r7a, h6a, hIa⟩
  have hsl : (sL l).length = l.length := by simp [sL]
  have hbi := hb i hIa
  simp (maxSteps := 5000000) -dsimp only [↓gp, gq, reduceCtorEq, Nat.reduceEqDiff, Nat.reduceLT, Nat.reduceLeDiff, Nat.reduceAdd, Nat.reduceMul, Nat.reduceSub, Nat.reduceBEq, Int.reduceToNat, Int.reduceLE, Int.reduceLT, Int.reduceNeg, Nat.reduceMod, sid_ne1, sid_ne2, sid_inj, sid_mod, gT, TK.isInt, TK.agg, Array.toList, h0a, h1a, h5a, r7a, h6a, hsl, conv_own, cvRow_strB]
  refine ⟨fun h => ?_, fun h => ?_⟩
  · have hb1 := hb (i + 1) h
    have hw := wrap_nat h (show l.length ≤ 9223372036854775807 by omega)
    have hse := strB_length sep
    have hsj := strB_length (joinP l sep i)
    refine ⟨fun h0 => ?_, fun h0 => ?_⟩
    · have e : joinP l sep (i + 1) = (joinP l sep i ++ sep) ++ l.getD i ⟨#[]⟩ := by rw [joinP, if_neg (by omega)]
      rw [e, ByteArray.size_append, ByteArray.size_append] at hb1
      have e2 : strB (joinP l sep i) ++ strB sep ++ strB (l.getD i ⟨#[]⟩) = strB (joinP l sep (i + 1)) := by rw [strB_append, strB_append, e]
      exact ⟨by omega, h, h, by rw [List.length_append]; omega, again_of ((i + 1, v + 1 + 1)) (by refine ⟨?_, ?_, ?_, ?_, ?_, by dsimp only; omega⟩ <;> (first | (simp (maxSteps := 5000000) -dsimp only [gr, Nat.reduceEqDiff, Nat.reduceLT, Nat.reduceAdd, Nat.reduceMod, Nat.reduceBEq, sid_mod, sid_ne1, sid_ne2, sid_inj, h0a, h1a, h5a, r7a, h6a, hw, e2]; first | done | rfl | (simp; done)) | assumption | rfl)) (by first | omega | (simp only; omega) | (dsimp only; omega) | (show _ < _; simp; omega))⟩
    · have e : joinP l sep (i + 1) = joinP l sep i ++ l.getD i ⟨#[]⟩ := by rw [joinP, if_pos (by omega)]
      rw [e, ByteArray.size_append] at hb1
      have e2 : strB (joinP l sep i) ++ strB (l.getD i ⟨#[]⟩) = strB (joinP l sep (i + 1)) := by rw [strB_append, e]
      exact ⟨h, h, by omega, again_of ((i + 1, v + 1)) (by refine ⟨?_, ?_, ?_, ?_, ?_, by dsimp only; omega⟩ <;> (first | (simp (maxSteps := 5000000) -dsimp only [gr, Nat.reduceEqDiff, Nat.reduceLT, Nat.reduceAdd, Nat.reduceMod, Nat.reduceBEq, sid_mod, sid_ne1, sid_ne2, sid_inj, h0a, h1a, h5a, r7a, h6a, hw, e2]; first | done | rfl | (simp; done)) | assumption | rfl)) (by first | omega | (simp only; omega) | (dsimp only; omega) | (show _ < _; simp; omega))⟩
  · have : i = l.length := by omega
    rw [this]
end Go.Proofs.Ytlapkhmehcnjeaa

namespace Go.Proofs.Ytlapkhmehcnjeaa
open Go.Abs
set_option linter.unusedSimpArgs false
set_option linter.unusedVariables false

theorem bit_i64 : ∀ s, s < 64 → ∀ i, i < 6 → (iand .i64 (ishr .i64 (s : Nat) (i : Nat)) 1 == 1) = s.testBit i := by
  have h : ((List.range 64).all fun s => (List.range 6).all fun i => (iand .i64 (ishr .i64 (s : Nat) (i : Nat)) 1 == 1) == s.testBit i) = true := by decide +kernel
  intro s hs i hi
  have := List.all_eq_true.1 (List.all_eq_true.1 h s (List.mem_range.2 hs)) i (List.mem_range.2 hi)
  simpa using this
/-- The points of a set, as text. -/
def ptsP (s i : Nat) : List Nat := (List.range i).filter s.testBit
def txP (s i : Nat) : ByteArray := ⟨((ptsP s i).map fun j => UInt8.ofNat (97 + j)).toArray⟩
def setTx (s : Nat) : ByteArray := if s = 0 then ⟨#[45]⟩ else txP s 6
def setTI (s : Int) : ByteArray := if 0 ≤ s ∧ s < 64 then setTx s.toNat else ⟨#[]⟩
theorem ptsP_yes {s i : Nat} (h : s.testBit i = true) : ptsP s (i + 1) = ptsP s i ++ [i] := by unfold ptsP; rw [List.range_succ, List.filter_append]; simp [h]
theorem ptsP_no {s i : Nat} (h : s.testBit i = false) : ptsP s (i + 1) = ptsP s i := by unfold ptsP; rw [List.range_succ, List.filter_append]; simp [h]
theorem txP_yes {s i : Nat} (h : s.testBit i = true) : txP s (i + 1) = txP s i ++ ⟨#[UInt8.ofNat (97 + i)]⟩ := by
  unfold txP; rw [ptsP_yes h]
  refine ByteArray.ext ?_
  simp
theorem txP_no {s i : Nat} (h : s.testBit i = false) : txP s (i + 1) = txP s i := by unfold txP; rw [ptsP_no h]
theorem ptsP_len (s i : Nat) : (ptsP s i).length ≤ i := by
  have := List.length_filter_le s.testBit (List.range i)
  rwa [List.length_range] at this
theorem txP_size (s i : Nat) : (txP s i).size ≤ i := by
  have := ptsP_len s i
  show ((ptsP s i).map _).toArray.size ≤ i
  simpa using this
theorem abc_cut : ∀ i, i < 6 → (⟨#[97, 98, 99, 100, 101, 102]⟩ : ByteArray).extract i (i + 1) = ⟨#[UInt8.ofNat (97 + i)]⟩ := by decide +kernel
theorem c_spec_SetText (s : Int) : AC Try.prog 89 [int s] (.im (str (setTI s))) := by
  refine AC.go (rs := [.tmp 2]) T_ok mixed Try.func89 rfl rfl rfl (by kernel_rfl) fun hl => ?_
  simp (maxSteps := 5000000) -dsimp only [↓gp, gq, reduceCtorEq, Nat.reduceEqDiff, Nat.reduceLT, Nat.reduceLeDiff, Nat.reduceAdd, Nat.reduceMul, Nat.reduceSub, Nat.reduceBEq, Int.reduceToNat, Int.reduceLE, Int.reduceLT, Int.reduceNeg, Nat.reduceMod, sid_ne1, sid_ne2, sid_inj, sid_mod, gT, TK.isInt, TK.agg, Array.toList]
  refine askK_of (c_spec_l1In _ _ _) ?_
  simp (maxSteps := 5000000) -dsimp only [↓gp, gq, reduceCtorEq, Nat.reduceEqDiff, Nat.reduceLT, Nat.reduceLeDiff, Nat.reduceAdd, Nat.reduceMul, Nat.reduceSub, Nat.reduceBEq, Int.reduceToNat, Int.reduceLE, Int.reduceLT, Int.reduceNeg, Nat.reduceMod, sid_ne1, sid_ne2, sid_inj, sid_mod, gT, TK.isInt, TK.agg, Array.toList]
  unfold setTI
  refine ⟨fun h => ?_, fun h => ?_⟩
  · rw [if_neg (fun hc => by simp at h; omega)]
  · have h : 0 ≤ s ∧ s ≤ 63 := by simpa using h
    rw [if_pos ⟨h.1, by omega⟩]
    obtain ⟨u, rfl⟩ : ∃ u : Nat, s = u := ⟨s.toNat, by omega⟩
    rw [Int.toNat_natCast]
    have hu : u < 64 := by omega
    refine ⟨fun h0 => ?_, fun h0 => ?_⟩
    · have : u = 0 := by
        have : (u : Int) = 0 := by simpa using h0
        omega
      rw [this]; rfl
    · have hne : u ≠ 0 := fun e => by rw [e] at h0; simp at h0
      have hse : setTx u = txP u 6 := if_neg hne
      rw [hse]
      refine loop_of (fun (i : Nat) s => s.sl 0 = int u ∧ s.sl 3 = str (txP u i) ∧ s.sl 4 = int i ∧ (i ≤ 6)) (fun i => 6 - i) (0) (by refine ⟨?_, ?_, ?_, by omega⟩ <;> (first | (simp (maxSteps := 5000000) -dsimp only [gr, Nat.reduceEqDiff, Nat.reduceLT, Nat.reduceAdd, Nat.reduceMod, Nat.reduceBEq, sid_mod, sid_ne1, sid_ne2, sid_inj]; first | done | rfl | (simp; done)) | assumption | rfl)) ?_
      intro i sa ⟨h0a, h3a, h4a, hIa⟩
      have hun : IntKind.u64.wrap (i : Int) = (i : Int) := uwrap_id (by omega)
      by_cases hi : i < 6
      · have hbit := bit_i64 u hu i hi
        have hcut := abc_cut i hi
        have hw := wrap_nat hi (by omega)
        simp (maxSteps := 5000000) -dsimp only [↓gp, gq, reduceCtorEq, Nat.reduceEqDiff, Nat.reduceLT, Nat.reduceLeDiff, Nat.reduceAdd, Nat.reduceMul, Nat.reduceSub, Nat.reduceBEq, Int.reduceToNat, Int.reduceLE, Int.reduceLT, Int.reduceNeg, Nat.reduceMod, sid_ne1, sid_ne2, sid_inj, sid_mod, gT, TK.isInt, TK.agg, Array.toList, h0a, h3a, h4a, hun, hbit, hw, Int.toNat_natCast, hcut]
        have hsz := txP_size u i
        refine ⟨fun _ => ⟨fun hb => ⟨by omega, by show i + 1 ≤ 6; omega, by show (txP u i).size + 1 ≤ 9223372036854775807; omega, ?_⟩, fun hb => ?_⟩, fun h => absurd (by omega) h⟩
        · have e := txP_yes hb
          exact again_of (i + 1) (by refine ⟨?_, ?_, ?_, by omega⟩ <;> (first | (simp (maxSteps := 5000000) -dsimp only [gr, Nat.reduceEqDiff, Nat.reduceLT, Nat.reduceAdd, Nat.reduceMod, Nat.reduceBEq, sid_mod, sid_ne1, sid_ne2, sid_inj, h0a, h3a, h4a, hw, e]; first | done | rfl | (simp; done)) | assumption | rfl)) (by first | omega | (simp only; omega) | (dsimp only; omega) | (show _ < _; simp; omega))
        · have e := txP_no hb
          exact again_of (i + 1) (by refine ⟨?_, ?_, ?_, by omega⟩ <;> (first | (simp (maxSteps := 5000000) -dsimp only [gr, Nat.reduceEqDiff, Nat.reduceLT, Nat.reduceAdd, Nat.reduceMod, Nat.reduceBEq, sid_mod, sid_ne1, sid_ne2, sid_inj, h0a, h3a, h4a, hw, e]; first | done | rfl | (simp; done)) | assumption | rfl)) (by first | omega | (simp only; omega) | (dsimp only; omega) | (show _ < _; simp; omega))
      · simp (maxSteps := 5000000) -dsimp only [↓gp, gq, reduceCtorEq, Nat.reduceEqDiff, Nat.reduceLT, Nat.reduceLeDiff, Nat.reduceAdd, Nat.reduceMul, Nat.reduceSub, Nat.reduceBEq, Int.reduceToNat, Int.reduceLE, Int.reduceLT, Int.reduceNeg, Nat.reduceMod, sid_ne1, sid_ne2, sid_inj, sid_mod, gT, TK.isInt, TK.agg, Array.toList, h0a, h3a, h4a, hun]
        refine ⟨fun h => absurd h (by omega), fun _ => ?_⟩
        have : i = 6 := by omega
        rw [this]
theorem c_impl_PointsOf (u : Nat) (hs : u < 64) : AC Try.prog 124 [int u] (.fr 3 1 (iL (ofN (ptsP u 6)))) := by
  refine AC.go (rs := [.tmp 2]) T_ok mixed Try.func124 rfl rfl rfl (by kernel_rfl) fun hl => ?_
  simp (maxSteps := 5000000) -dsimp only [↓gp, gq, reduceCtorEq, Nat.reduceEqDiff, Nat.reduceLT, Nat.reduceLeDiff, Nat.reduceAdd, Nat.reduceMul, Nat.reduceSub, Nat.reduceBEq, Int.reduceToNat, Int.reduceLE, Int.reduceLT, Int.reduceNeg, Nat.reduceMod, sid_ne1, sid_ne2, sid_inj, sid_mod, gT, TK.isInt, TK.agg, Array.toList]
  refine askK_of (c_impl_IsSet 6 u) ?_
  have hin : inSet 6 (u : Int) = true := by unfold inSet; exact decide_eq_true ⟨by omega, by omega, by omega, by simpa using (by omega : (u : Int) < 64)⟩
  rw [hin]
  simp (maxSteps := 5000000) -dsimp only [↓gp, gq, reduceCtorEq, Nat.reduceEqDiff, Nat.reduceLT, Nat.reduceLeDiff, Nat.reduceAdd, Nat.reduceMul, Nat.reduceSub, Nat.reduceBEq, Int.reduceToNat, Int.reduceLE, Int.reduceLT, Int.reduceNeg, Nat.reduceMod, sid_ne1, sid_ne2, sid_inj, sid_mod, gT, TK.isInt, TK.agg, Array.toList]
  refine loop_of (fun (za : Nat × Nat) s => match za with | (i, v) => s.sl 0 = int u ∧ s.sl 3 = .own 3 v ∧ s.rw 3 = ⟨v, .sli 3 1 false (iL (ofN (ptsP u i)))⟩ ∧ s.sl 4 = int i ∧ (i ≤ 6)) (fun (i, v) => 6 - i) ((0, 1)) (by refine ⟨?_, ?_, ?_, ?_, by omega⟩ <;> (first | (simp (maxSteps := 5000000) -dsimp only [gr, Nat.reduceEqDiff, Nat.reduceLT, Nat.reduceAdd, Nat.reduceMod, Nat.reduceBEq, sid_mod, sid_ne1, sid_ne2, sid_inj]; first | done | rfl | (simp; done)) | assumption | rfl)) ?_
  intro (i, v) sa ⟨h0a, h3a, r3a, h4a, hIa⟩
  have hpl := ptsP_len u i
  have hun : IntKind.u64.wrap (i : Int) = (i : Int) := uwrap_id (by omega)
  by_cases hi : i < 6
  · have hbit := bit_i64 u hs i hi
    simp (maxSteps := 5000000) -dsimp only [↓gp, gq, reduceCtorEq, Nat.reduceEqDiff, Nat.reduceLT, Nat.reduceLeDiff, Nat.reduceAdd, Nat.reduceMul, Nat.reduceSub, Nat.reduceBEq, Int.reduceToNat, Int.reduceLE, Int.reduceLT, Int.reduceNeg, Nat.reduceMod, sid_ne1, sid_ne2, sid_inj, sid_mod, gT, TK.isInt, TK.agg, Array.toList, h0a, h3a, r3a, h4a, hun, hbit]
    refine ⟨fun _ => ⟨fun hb => ⟨by rw [ofN_length]; omega, ?_⟩, fun hb => ?_⟩, fun h => absurd h (by omega)⟩
    · have e : ofN (ptsP u i) ++ [(i : Int)] = ofN (ptsP u (i + 1)) := by rw [ptsP_yes hb, ofN_append, ofN_one]
      exact again_of ((i + 1, v + 1)) (by refine ⟨?_, ?_, ?_, ?_, by dsimp only; omega⟩ <;> (first | (simp (maxSteps := 5000000) -dsimp only [gr, Nat.reduceEqDiff, Nat.reduceLT, Nat.reduceAdd, Nat.reduceMod, Nat.reduceBEq, sid_mod, sid_ne1, sid_ne2, sid_inj, h0a, h3a, r3a, h4a, wrap_nat hi (by omega), e]; first | done | rfl | (simp; done)) | assumption | rfl)) (by first | omega | (simp only; omega) | (dsimp only; omega) | (show _ < _; simp; omega))
    · have e := ptsP_no hb
      exact again_of ((i + 1, v)) (by refine ⟨?_, ?_, ?_, ?_, by dsimp only; omega⟩ <;> (first | (simp (maxSteps := 5000000) -dsimp only [gr, Nat.reduceEqDiff, Nat.reduceLT, Nat.reduceAdd, Nat.reduceMod, Nat.reduceBEq, sid_mod, sid_ne1, sid_ne2, sid_inj, h0a, h3a, r3a, h4a, wrap_nat hi (by omega), e]; first | done | rfl | (simp; done)) | assumption | rfl)) (by first | omega | (simp only; omega) | (dsimp only; omega) | (show _ < _; simp; omega))
  · simp (maxSteps := 5000000) -dsimp only [↓gp, gq, reduceCtorEq, Nat.reduceEqDiff, Nat.reduceLT, Nat.reduceLeDiff, Nat.reduceAdd, Nat.reduceMul, Nat.reduceSub, Nat.reduceBEq, Int.reduceToNat, Int.reduceLE, Int.reduceLT, Int.reduceNeg, Nat.reduceMod, sid_ne1, sid_ne2, sid_inj, sid_mod, gT, TK.isInt, TK.agg, Array.toList, h0a, h3a, r3a, h4a, hun]
    refine ⟨fun h => absurd h (by omega), fun _ => ?_⟩
    have : i = 6 := by omega
    rw [this]
/-- The points' letters, one by one. -/
def lets (l : List Nat) : ByteArray := ⟨(l.map fun j => UInt8.ofNat (97 + j)).toArray⟩
theorem strB_lets (l : List Nat) (i : Nat) (h : i < 6) : strB (lets l) ++ [PV.v (.int .u8 (97 + i : Nat))] = strB (lets (l ++ [i])) := by
  unfold strB lets
  have : (UInt8.ofNat (97 + i)).toNat = 97 + i := by simp; omega
  simp only [List.map_append, List.map_cons, List.map_nil, List.toList_toArray, this]
theorem c_impl_SetText (s : Int) : AC Try.prog 93 [int s] (.im (str (setTI s))) := by
  refine AC.go (rs := [.tmp 2]) T_ok mixed Try.func93 rfl rfl rfl (by kernel_rfl) fun hl => ?_
  simp (maxSteps := 5000000) -dsimp only [↓gp, gq, reduceCtorEq, Nat.reduceEqDiff, Nat.reduceLT, Nat.reduceLeDiff, Nat.reduceAdd, Nat.reduceMul, Nat.reduceSub, Nat.reduceBEq, Int.reduceToNat, Int.reduceLE, Int.reduceLT, Int.reduceNeg, Nat.reduceMod, sid_ne1, sid_ne2, sid_inj, sid_mod, gT, TK.isInt, TK.agg, Array.toList]
  refine askK_of (c_impl_IsSet 6 s) ?_
  have hin : inSet 6 s = decide (0 ≤ s ∧ s < 64) := by
    unfold inSet
    refine decide_eq_decide.2 ⟨fun h => ⟨h.2.2.1, by simpa using h.2.2.2⟩, fun h => ⟨by omega, by omega, h.1, by simpa using h.2⟩⟩
  rw [hin]
  simp (maxSteps := 5000000) -dsimp only [↓gp, gq, reduceCtorEq, Nat.reduceEqDiff, Nat.reduceLT, Nat.reduceLeDiff, Nat.reduceAdd, Nat.reduceMul, Nat.reduceSub, Nat.reduceBEq, Int.reduceToNat, Int.reduceLE, Int.reduceLT, Int.reduceNeg, Nat.reduceMod, sid_ne1, sid_ne2, sid_inj, sid_mod, gT, TK.isInt, TK.agg, Array.toList]
  unfold setTI
  refine ⟨fun h => ?_, fun h => ?_⟩
  · rw [if_neg (fun hc => by rw [decide_eq_true hc] at h; cases h)]
  · have h : 0 ≤ s ∧ s < 64 := by simpa using h
    rw [if_pos h]
    obtain ⟨u, rfl⟩ : ∃ u : Nat, s = u := ⟨s.toNat, by omega⟩
    rw [Int.toNat_natCast]
    have hu : u < 64 := by omega
    refine ⟨fun h0 => ?_, fun h0 => ?_⟩
    · have : u = 0 := by
        have : (u : Int) = 0 := by simpa using h0
        omega
      rw [this]; rfl
    · have hne : u ≠ 0 := fun e => by rw [e] at h0; simp at h0
      have hse : setTx u = lets (ptsP u 6) := if_neg hne
      rw [hse]
      refine ⟨by decide, askK_of (c_impl_PointsOf u hu) ?_⟩
      simp (maxSteps := 5000000) -dsimp only [↓gp, gq, reduceCtorEq, Nat.reduceEqDiff, Nat.reduceLT, Nat.reduceLeDiff, Nat.reduceAdd, Nat.reduceMul, Nat.reduceSub, Nat.reduceBEq, Int.reduceToNat, Int.reduceLE, Int.reduceLT, Int.reduceNeg, Nat.reduceMod, sid_ne1, sid_ne2, sid_inj, sid_mod, gT, TK.isInt, TK.agg, Array.toList, ofN_length]
      have hpl := ptsP_len u 6
      have hpm : ∀ k, k < (ptsP u 6).length → (ptsP u 6).getD k 0 < 6 := fun k hk => List.mem_range.1 (List.mem_filter.1 (getD_mem 0 hk)).1
      generalize ptsP u 6 = l at *
      have hz0 : lets (l.take 0) = ⟨#[]⟩ := rfl
      refine loop_of (fun (za : Nat × Nat) s => match za with | (k, v) => s.sl 3 = .own 11 v ∧ s.rw 11 = ⟨v, .sli 5 1 false (strB (lets (l.take k)))⟩ ∧ s.sl 13 = .own 13 1 ∧ s.rw 13 = ⟨1, .sli 3 1 false (iL (ofN l))⟩ ∧ s.sl 14 = int l.length ∧ s.sl 15 = int k ∧ (k ≤ l.length)) (fun (k, v) => l.length - k) ((0, 1)) (by refine ⟨?_, ?_, ?_, ?_, ?_, ?_, by omega⟩ <;> (first | (simp (maxSteps := 5000000) -dsimp only [gr, Nat.reduceEqDiff, Nat.reduceLT, Nat.reduceAdd, Nat.reduceMod, Nat.reduceBEq, sid_mod, sid_ne1, sid_ne2, sid_inj, hz0, strB_nil, List.replicate]; first | done | rfl | (simp; done)) | assumption | rfl)) ?_
      intro (k, v) sa ⟨h3a, r11a, h13a, r13a, h14a, h15a, hIa⟩
      have hlen : (strB (lets (l.take k))).length ≤ 6 := by rw [strB_length]; show ((l.take k).map _).toArray.size ≤ 6; simp; omega
      by_cases hk : k < l.length
      · have hge : (ofN l).getD k 0 = ((l.getD k 0 : Nat) : Int) := ofN_getD hk
        have hm := hpm k hk
        have hw := wrap_nat hk (by omega)
        have hw1 : IntKind.i64.wrap (97 + ((l.getD k 0 : Nat) : Int)) = ((97 + l.getD k 0 : Nat) : Int) := by rw [wrap_id (by omega) (by omega)]; rfl
        have hw8 : IntKind.u8.wrap ((97 + l.getD k 0 : Nat) : Int) = ((97 + l.getD k 0 : Nat) : Int) := by
          generalize l.getD k 0 = x at hm
          simp [IntKind.wrap, IntKind.bits, IntKind.signed]
          omega
        have e : strB (lets (l.take k)) ++ [PV.v (.int .u8 (97 + l.getD k 0 : Nat))] = strB (lets (l.take (k + 1))) := by rw [strB_lets _ _ hm, take_snoc 0 hk]
        simp (maxSteps := 5000000) -dsimp only [↓gp, gq, reduceCtorEq, Nat.reduceEqDiff, Nat.reduceLT, Nat.reduceLeDiff, Nat.reduceAdd, Nat.reduceMul, Nat.reduceSub, Nat.reduceBEq, Int.reduceToNat, Int.reduceLE, Int.reduceLT, Int.reduceNeg, Nat.reduceMod, sid_ne1, sid_ne2, sid_inj, sid_mod, gT, TK.isInt, TK.agg, Array.toList, h3a, r11a, h13a, r13a, h14a, h15a, ofN_length, hge, hw1, hw8, lit_u8, conv_own, cvRow_strB]
        refine ⟨fun _ => ⟨hk, hk, ?_, by omega, again_of ((k + 1, v + 1)) (by refine ⟨?_, ?_, ?_, ?_, ?_, ?_, by dsimp only; omega⟩ <;> (first | (simp (maxSteps := 5000000) -dsimp only [gr, Nat.reduceEqDiff, Nat.reduceLT, Nat.reduceAdd, Nat.reduceMod, Nat.reduceBEq, sid_mod, sid_ne1, sid_ne2, sid_inj, h3a, r11a, h13a, r13a, h14a, h15a, hw, e]; first | done | rfl | (simp; done)) | assumption | rfl)) (by first | omega | (simp only; omega) | (dsimp only; omega) | (show _ < _; simp; omega))⟩, fun h => absurd hk h⟩
        intro p hp
        rw [List.mem_singleton.1 hp]; rfl
      · simp (maxSteps := 5000000) -dsimp only [↓gp, gq, reduceCtorEq, Nat.reduceEqDiff, Nat.reduceLT, Nat.reduceLeDiff, Nat.reduceAdd, Nat.reduceMul, Nat.reduceSub, Nat.reduceBEq, Int.reduceToNat, Int.reduceLE, Int.reduceLT, Int.reduceNeg, Nat.reduceMod, sid_ne1, sid_ne2, sid_inj, sid_mod, gT, TK.isInt, TK.agg, Array.toList, h3a, r11a, h13a, r13a, h14a, h15a, ofN_length, conv_own, cvRow_strB]
        refine ⟨fun h => absurd h hk, fun _ => ?_⟩
        rw [List.take_of_length_le (by omega)]
end Go.Proofs.Ytlapkhmehcnjeaa
