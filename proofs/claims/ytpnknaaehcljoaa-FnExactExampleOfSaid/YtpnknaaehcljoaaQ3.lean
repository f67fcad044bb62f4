/- DERIVED by an AI agent. -/
import Derived.Test.YtpnknaaehcljoaaQ2
import Derived.Test.YtpnknaaehcljoaaP1
import Derived.Test.YtpnknaaehcljoaaQ1
import Derived.Test.YtpnknaaehcljoaaA15
import Derived.Test.YtpnknaaehcljoaaA14
namespace Go.Proofs.Ytpnknaaehcljoaa
open Go.Abs
set_option linter.unusedSimpArgs false
set_option linter.unusedVariables false

theorem c_impl_IsComplex (n : Int) (xs : List Int) : AC Try.prog 106 [.ag [int n, ints xs]] (.im (bool (isCx n xs))) := by
  refine AC.go (rs := [.tmp 2]) T_ok mixed Try.func106 rfl rfl rfl (by kernel_rfl) fun hl => ?_
  simp (maxSteps := 5000000) -dsimp only [↓gp, gq, reduceCtorEq, Nat.reduceEqDiff, Nat.reduceLT, Nat.reduceLeDiff, Nat.reduceAdd, Nat.reduceMul, Nat.reduceSub, Nat.reduceBEq, Int.reduceToNat, Int.reduceLE, Int.reduceLT, Int.reduceNeg, Nat.reduceMod, sid_ne1, sid_ne2, sid_inj, sid_mod, gT, TK.isInt, TK.agg, Array.toList]
  refine askK_of (c_impl_isAntichain n xs) ?_
  simp (maxSteps := 5000000) -dsimp only [↓gp, gq, reduceCtorEq, Nat.reduceEqDiff, Nat.reduceLT, Nat.reduceLeDiff, Nat.reduceAdd, Nat.reduceMul, Nat.reduceSub, Nat.reduceBEq, Int.reduceToNat, Int.reduceLE, Int.reduceLT, Int.reduceNeg, Nat.reduceMod, sid_ne1, sid_ne2, sid_inj, sid_mod, gT, TK.isInt, TK.agg, Array.toList]
theorem c_impl_SplitByte (t : ByteArray) (b : Nat) (ht : t.size ≤ 1000) : AC Try.prog 176 [str t, .v (.int .u8 b)] (.fr 9 1 (sL (splitB t b))) := by
  refine AC.go (rs := [.tmp 4]) T_ok mixed Try.func176 rfl rfl rfl (by kernel_rfl) fun hl => ?_
  simp (maxSteps := 5000000) -dsimp only [↓gp, gq, reduceCtorEq, Nat.reduceEqDiff, Nat.reduceLT, Nat.reduceLeDiff, Nat.reduceAdd, Nat.reduceMul, Nat.reduceSub, Nat.reduceBEq, Int.reduceToNat, Int.reduceLE, Int.reduceLT, Int.reduceNeg, Nat.reduceMod, sid_ne1, sid_ne2, sid_inj, sid_mod, gT, TK.isInt, TK.agg, Array.toList]
  refine loop_of (fun (za : Nat × Nat) s => match za with | (i, v) => s.sl 0 = str t ∧ s.sl 1 = .v (.int .u8 b) ∧ s.sl 5 = .own 5 v ∧ s.rw 5 = ⟨v, .sli 9 1 false (sL (spSt t b i).1)⟩ ∧ s.sl 6 = int (spSt t b i).2 ∧ s.sl 7 = int i ∧ (i ≤ t.size)) (fun (i, v) => t.size - i) ((0, 1)) (by refine ⟨?_, ?_, ?_, ?_, ?_, ?_, by simp⟩ <;> (first | (simp (maxSteps := 5000000) -dsimp only [gr, Nat.reduceEqDiff, Nat.reduceLT, Nat.reduceAdd, Nat.reduceMod, Nat.reduceBEq, sid_mod, sid_ne1, sid_ne2, sid_inj]; first | done | rfl | (simp; done)) | assumption | rfl)) ?_
  intro (i, v) sa ⟨h0a, h1a, h5a, r5a, h6a, h7a, hIa⟩
  have hle := spSt_le t b i
  simp (maxSteps := 5000000) -dsimp only [↓gp, gq, reduceCtorEq, Nat.reduceEqDiff, Nat.reduceLT, Nat.reduceLeDiff, Nat.reduceAdd, Nat.reduceMul, Nat.reduceSub, Nat.reduceBEq, Int.reduceToNat, Int.reduceLE, Int.reduceLT, Int.reduceNeg, Nat.reduceMod, sid_ne1, sid_ne2, sid_inj, sid_mod, gT, TK.isInt, TK.agg, Array.toList, h0a, h1a, h5a, r5a, h6a, h7a, sL_length]
  refine ⟨fun h => ⟨h, fun he => ⟨hle.1, by omega, by omega, ?_⟩, fun he => ?_⟩, fun h => ⟨by omega, by omega, ?_⟩⟩
  · have he : byt t i = b := by have := beq_iff_eq.1 he; unfold byt; omega
    exact again_of ((i + 1, v + 1)) (by refine ⟨?_, ?_, ?_, ?_, ?_, ?_, by omega⟩ <;> (first | (simp (maxSteps := 5000000) -dsimp only [gr, Nat.reduceEqDiff, Nat.reduceLT, Nat.reduceAdd, Nat.reduceMod, Nat.reduceBEq, sid_mod, sid_ne1, sid_ne2, sid_inj, h0a, h1a, h5a, r5a, h6a, h7a, wrap_nat h (by omega), spSt_yes he, sL_snoc]; first | done | rfl | (simp; done)) | assumption | rfl)) (by first | omega | (simp only; omega) | (dsimp only; omega) | (show _ < _; simp; omega))
  · have he : ¬ byt t i = b := by have := beq_eq_false_iff_ne.1 he; unfold byt; omega
    exact again_of ((i + 1, v)) (by refine ⟨?_, ?_, ?_, ?_, ?_, ?_, by omega⟩ <;> (first | (simp (maxSteps := 5000000) -dsimp only [gr, Nat.reduceEqDiff, Nat.reduceLT, Nat.reduceAdd, Nat.reduceMod, Nat.reduceBEq, sid_mod, sid_ne1, sid_ne2, sid_inj, h0a, h1a, h5a, r5a, h6a, h7a, wrap_nat h (by omega), spSt_no he]; first | done | rfl | (simp; done)) | assumption | rfl)) (by first | omega | (simp only; omega) | (dsimp only; omega) | (show _ < _; simp; omega))
  · obtain rfl : i = t.size := by omega
    rfl
theorem c_spec_SplitByte (t : ByteArray) (b : Nat) (ht : t.size ≤ 1000) : AC Try.prog 169 [str t, .v (.int .u8 b)] (.fr 9 1 (sL (splitB t b))) := by
  refine AC.go (rs := [.tmp 4]) T_ok mixed Try.func169 rfl rfl rfl (by kernel_rfl) fun hl => ?_
  simp (maxSteps := 5000000) -dsimp only [↓gp, gq, reduceCtorEq, Nat.reduceEqDiff, Nat.reduceLT, Nat.reduceLeDiff, Nat.reduceAdd, Nat.reduceMul, Nat.reduceSub, Nat.reduceBEq, Int.reduceToNat, Int.reduceLE, Int.reduceLT, Int.reduceNeg, Nat.reduceMod, sid_ne1, sid_ne2, sid_inj, sid_mod, gT, TK.isInt, TK.agg, Array.toList]
  refine loop_of (fun (za : Nat × Nat × List ByteArray × Nat) s => match za with | (i, v, out, st) => s.sl 0 = str t ∧ s.sl 1 = .v (.int .u8 b) ∧ s.sl 5 = .own 8 v ∧ s.rw 8 = ⟨v, .sli 9 1 false (sL out)⟩ ∧ s.sl 6 = int st ∧ s.sl 7 = int i ∧ (i ≤ t.size + 1 ∧ (i ≤ t.size → out = (spSt t b i).1 ∧ st = (spSt t b i).2) ∧ (t.size < i → out = splitB t b))) (fun (i, v, out, st) => t.size + 1 - i) ((0, 1, [], 0)) (by refine ⟨?_, ?_, ?_, ?_, ?_, ?_, ⟨by simp, by simp [spSt], by simp⟩⟩ <;> (first | (simp (maxSteps := 5000000) -dsimp only [gr, Nat.reduceEqDiff, Nat.reduceLT, Nat.reduceAdd, Nat.reduceMod, Nat.reduceBEq, sid_mod, sid_ne1, sid_ne2, sid_inj]; first | done | rfl | (simp; done)) | assumption | rfl)) ?_
  intro (i, v, out, st) sa ⟨h0a, h1a, h5a, r8a, h6a, h7a, hIa⟩
  obtain ⟨hi, h1, h2⟩ := hIa
  have hle := spSt_le t b i
  simp (maxSteps := 5000000) -dsimp only [↓gp, gq, reduceCtorEq, Nat.reduceEqDiff, Nat.reduceLT, Nat.reduceLeDiff, Nat.reduceAdd, Nat.reduceMul, Nat.reduceSub, Nat.reduceBEq, Int.reduceToNat, Int.reduceLE, Int.reduceLT, Int.reduceNeg, Nat.reduceMod, sid_ne1, sid_ne2, sid_inj, sid_mod, gT, TK.isInt, TK.agg, Array.toList, h0a, h1a, h5a, r8a, h6a, h7a, sL_length]
  refine ⟨fun h => ?_, fun h => by rw [h2 (by omega)]⟩
  obtain ⟨rfl, rfl⟩ := h1 h
  refine ⟨fun hne => ?_, fun he => ?_⟩
  · have hne := beq_eq_false_iff_ne.1 hne
    have hlt : i < t.size := by omega
    refine ⟨hlt, fun he => ⟨hle.1, by omega, by omega, ?_⟩, fun he => ?_⟩
    · have he : byt t i = b := by have := beq_iff_eq.1 he; unfold byt; omega
      exact again_of ((i + 1, v + 1, (spSt t b (i + 1)).1, (spSt t b (i + 1)).2)) (by refine ⟨?_, ?_, ?_, ?_, ?_, ?_, ⟨by omega, fun _ => ⟨by rw [spSt_yes he], by rw [spSt_yes he]⟩, by omega⟩⟩ <;> (first | (simp (maxSteps := 5000000) -dsimp only [gr, Nat.reduceEqDiff, Nat.reduceLT, Nat.reduceAdd, Nat.reduceMod, Nat.reduceBEq, sid_mod, sid_ne1, sid_ne2, sid_inj, h0a, h1a, h5a, r8a, h6a, h7a, wrap_nat hlt (by omega), spSt_yes he, sL_snoc]; first | done | rfl | (simp; done)) | assumption | rfl)) (by first | omega | (simp only; omega) | (dsimp only; omega) | (show _ < _; simp; omega))
    · have he : ¬ byt t i = b := by have := beq_eq_false_iff_ne.1 he; unfold byt; omega
      exact again_of ((i + 1, v, (spSt t b i).1, (spSt t b i).2)) (by refine ⟨?_, ?_, ?_, ?_, ?_, ?_, ⟨by omega, fun _ => ⟨by rw [spSt_no he], by rw [spSt_no he]⟩, by omega⟩⟩ <;> (first | (simp (maxSteps := 5000000) -dsimp only [gr, Nat.reduceEqDiff, Nat.reduceLT, Nat.reduceAdd, Nat.reduceMod, Nat.reduceBEq, sid_mod, sid_ne1, sid_ne2, sid_inj, h0a, h1a, h5a, r8a, h6a, h7a, wrap_nat hlt (by omega)]; first | done | rfl | (simp; done)) | assumption | rfl)) (by first | omega | (simp only; omega) | (dsimp only; omega) | (show _ < _; simp; omega))
  · have he := beq_iff_eq.1 he
    obtain rfl : i = t.size := by omega
    refine ⟨hle.1, by omega, by omega, ?_⟩
    have hw : IntKind.i64.wrap ((t.size : Int) + 1) = ((t.size + 1 : Nat) : Int) := wrap_nat (n := t.size + 1) (by omega) (by omega)
    exact again_of ((t.size + 1, v + 1, splitB t b, t.size + 1)) (by refine ⟨?_, ?_, ?_, ?_, ?_, ?_, ⟨by omega, by omega, fun _ => rfl⟩⟩ <;> (first | (simp (maxSteps := 5000000) -dsimp only [gr, Nat.reduceEqDiff, Nat.reduceLT, Nat.reduceAdd, Nat.reduceMod, Nat.reduceBEq, sid_mod, sid_ne1, sid_ne2, sid_inj, h0a, h1a, h5a, r8a, h6a, h7a, hw, sL_snoc, splitB]; first | done | rfl | (simp; done)) | assumption | rfl)) (by first | omega | (simp only; omega) | (dsimp only; omega) | (show _ < _; simp; omega))
theorem c_impl_ParseSet (t : ByteArray) (h : OkSet t) : AC Try.prog 177 [str t] (.tup [.im (int (setV t t.size : Nat)), .im (bool true)]) := by
  refine AC.go (rs := [.tmp 2, .tmp 3]) T_ok mixed Try.func177 rfl rfl rfl (by kernel_rfl) fun hl => ?_
  have hlo := h.lo
  have hhi := h.hi
  have e0 : ((t.size : Int) == 0) = false := beq_eq_false_iff_ne.2 (by omega)
  have e6 : (6 < (t.size : Int)) = False := eq_false (by omega)
  simp (maxSteps := 5000000) -dsimp only [↓gp, gq, reduceCtorEq, Nat.reduceEqDiff, Nat.reduceLT, Nat.reduceLeDiff, Nat.reduceAdd, Nat.reduceMul, Nat.reduceSub, Nat.reduceBEq, Int.reduceToNat, Int.reduceLE, Int.reduceLT, Int.reduceNeg, Nat.reduceMod, sid_ne1, sid_ne2, sid_inj, sid_mod, gT, TK.isInt, TK.agg, Array.toList, h.dash, e0, e6]
  refine loop_of (fun (i : Nat) s => s.sl 0 = str t ∧ s.sl 4 = int (setV t i : Nat) ∧ s.sl 5 = int i ∧ (i ≤ t.size)) (fun i => t.size - i) (0) (by refine ⟨?_, ?_, ?_, by simp⟩ <;> (first | (simp (maxSteps := 5000000) -dsimp only [gr, Nat.reduceEqDiff, Nat.reduceLT, Nat.reduceAdd, Nat.reduceMod, Nat.reduceBEq, sid_mod, sid_ne1, sid_ne2, sid_inj, setV_zero]; first | done | rfl | (simp; done)) | assumption | rfl)) ?_
  intro i sa ⟨h0a, h4a, h5a, hIa⟩
  simp (maxSteps := 5000000) -dsimp only [↓gp, gq, reduceCtorEq, Nat.reduceEqDiff, Nat.reduceLT, Nat.reduceLeDiff, Nat.reduceAdd, Nat.reduceMul, Nat.reduceSub, Nat.reduceBEq, Int.reduceToNat, Int.reduceLE, Int.reduceLT, Int.reduceNeg, Nat.reduceMod, sid_ne1, sid_ne2, sid_inj, sid_mod, gT, TK.isInt, TK.agg, Array.toList, h0a, h4a, h5a]
  have hb : byt t i = (t.data.toList.getD i 0).toNat := rfl
  rw [← hb]
  refine ⟨fun hi => ?_, fun hi => by obtain rfl : i = t.size := by omega
                                     rfl⟩
  have hl1 := h.letter i hi
  have hr := h.rise i hi
  have hv := setV_64 h i (by omega)
  have h2k : 2 ^ (byt t i - 97) < 64 := by have : 2 ^ (byt t i - 97) < 2 ^ 6 := Nat.pow_lt_pow_right (by omega) (by omega); omega
  have hw8 : IntKind.u8.wrap ((byt t i : Int) - 97) = ((byt t i - 97 : Nat) : Int) := by
    simp [IntKind.wrap, IntKind.bits, IntKind.signed]
    omega
  have hw64 : IntKind.u64.wrap ((byt t i - 97 : Nat) : Int) = ((byt t i - 97 : Nat) : Int) := uwrap_id (by omega)
  have hor : ior .i64 ((setV t i : Nat) : Int) (ishl .i64 1 ((byt t i - 97 : Nat) : Int)) = ((setV t (i + 1) : Nat) : Int) := by
    rw [ishl_small (by omega), ior_nat (by omega) (by omega), setV_succ]
  refine ⟨hi, fun _ => ⟨hi, fun hc => by omega, fun _ => ⟨by kernel_rfl, fun h0 => ?_, fun h0 => ⟨hi, by rw [hw8, hw64]; omega, ?_⟩⟩⟩, fun hc => by omega⟩
  · have h0 : 0 < i := by omega
    have hw1 : IntKind.i64.wrap ((i : Int) - 1) = ((i - 1 : Nat) : Int) := by rw [wrap_id (by omega) (by omega)]; omega
    rw [hw1]
    refine ⟨hi, by omega, by omega, fun hc => ?_, fun hc => ⟨hi, by rw [hw8, hw64]; omega, ?_⟩⟩
    · have := hr h0
      unfold byt at this hc
      rw [Int.toNat_natCast] at hc
      omega
    · exact again_of (i + 1) (by refine ⟨?_, ?_, ?_, by omega⟩ <;> (first | (simp (maxSteps := 5000000) -dsimp only [gr, Nat.reduceEqDiff, Nat.reduceLT, Nat.reduceAdd, Nat.reduceMod, Nat.reduceBEq, sid_mod, sid_ne1, sid_ne2, sid_inj, h0a, h4a, h5a, ← hb, hw8, hw64, hor, wrap_nat hi (by omega)]; first | done | rfl | (simp; done)) | assumption | rfl)) (by first | omega | (simp only; omega) | (dsimp only; omega) | (show _ < _; simp; omega))
  · exact again_of (i + 1) (by refine ⟨?_, ?_, ?_, by omega⟩ <;> (first | (simp (maxSteps := 5000000) -dsimp only [gr, Nat.reduceEqDiff, Nat.reduceLT, Nat.reduceAdd, Nat.reduceMod, Nat.reduceBEq, sid_mod, sid_ne1, sid_ne2, sid_inj, h0a, h4a, h5a, ← hb, hw8, hw64, hor, wrap_nat hi (by omega)]; first | done | rfl | (simp; done)) | assumption | rfl)) (by first | omega | (simp only; omega) | (dsimp only; omega) | (show _ < _; simp; omega))
theorem c_spec_ParseSet (t : ByteArray) (h : OkSet t) : AC Try.prog 171 [str t] (.tup [.im (int (setV t t.size : Nat)), .im (bool true)]) := by
  refine AC.go (rs := [.tmp 2, .tmp 3]) T_ok mixed Try.func171 rfl rfl rfl (by kernel_rfl) fun hl => ?_
  simp (maxSteps := 5000000) -dsimp only [↓gp, gq, reduceCtorEq, Nat.reduceEqDiff, Nat.reduceLT, Nat.reduceLeDiff, Nat.reduceAdd, Nat.reduceMul, Nat.reduceSub, Nat.reduceBEq, Int.reduceToNat, Int.reduceLE, Int.reduceLT, Int.reduceNeg, Nat.reduceMod, sid_ne1, sid_ne2, sid_inj, sid_mod, gT, TK.isInt, TK.agg, Array.toList]
  refine loop_of (fun (i : Nat) s => s.sl 0 = str t ∧ s.sl 4 = int (setV t i : Nat) ∧ s.sl 5 = int i ∧ (i ≤ t.size)) (fun i => t.size - i) (0) (by refine ⟨?_, ?_, ?_, by simp⟩ <;> (first | (simp (maxSteps := 5000000) -dsimp only [gr, Nat.reduceEqDiff, Nat.reduceLT, Nat.reduceAdd, Nat.reduceMod, Nat.reduceBEq, sid_mod, sid_ne1, sid_ne2, sid_inj, setV_zero]; first | done | rfl | (simp; done)) | assumption | rfl)) ?_
  intro i sa ⟨h0a, h4a, h5a, hIa⟩
  rcases Nat.lt_or_ge i t.size with hi | hi
  · have hlt : ((i : Int) < (t.size : Int)) = True := eq_true (by omega)
    have hb : byt t i = (t.data.toList.getD i 0).toNat := rfl
    have hl1 := h.letter i hi
    have hhi := h.hi
    have hv := setV_64 h i (by omega)
    have hvl := setV_lt h i hi
    have hw1 : IntKind.i64.wrap (IntKind.i64.wrap (((t.data.toList.getD i 0).toNat : Nat) : Int) - 97) = ((byt t i - 97 : Nat) : Int) := by
      have e1 : IntKind.i64.wrap ((byt t i : Nat) : Int) = ((byt t i : Nat) : Int) := wrap_id (by omega) (by omega)
      rw [← hb, e1, wrap_id (by omega) (by omega)]; omega
    simp (maxSteps := 5000000) -dsimp only [↓gp, gq, reduceCtorEq, Nat.reduceEqDiff, Nat.reduceLT, Nat.reduceLeDiff, Nat.reduceAdd, Nat.reduceMul, Nat.reduceSub, Nat.reduceBEq, Int.reduceToNat, Int.reduceLE, Int.reduceLT, Int.reduceNeg, Nat.reduceMod, sid_ne1, sid_ne2, sid_inj, sid_mod, gT, TK.isInt, TK.agg, Array.toList, h0a, h4a, h5a, h.dash, h.empty, hlt, hw1]
    refine ⟨hi, askK_of (c_spec_l1In _ _ _) ?_⟩
    have hd : (decide ((0 : Int) ≤ ((byt t i - 97 : Nat) : Int)) && decide (((byt t i - 97 : Nat) : Int) ≤ 5)) = true := by simp; omega
    have hw64 : IntKind.u64.wrap ((byt t i - 97 : Nat) : Int) = ((byt t i - 97 : Nat) : Int) := uwrap_id (by omega)
    have hsh : ishr .i64 ((setV t i : Nat) : Int) ((byt t i - 97 : Nat) : Int) = 0 := by
      rw [ishr_i (by omega), Nat.shiftRight_eq_div_pow, Nat.div_eq_of_lt hvl]; rfl
    have h2k : 2 ^ (byt t i - 97) < 64 := by have : 2 ^ (byt t i - 97) < 2 ^ 6 := Nat.pow_lt_pow_right (by omega) (by omega); omega
    have hadd : IntKind.i64.wrap (((setV t i : Nat) : Int) + ishl .i64 1 ((byt t i - 97 : Nat) : Int)) = ((setV t (i + 1) : Nat) : Int) := by
      rw [ishl_small (by omega), wrap_id (by omega) (by omega), ← setV_add h hi]; rfl
    simp (maxSteps := 5000000) -dsimp only [↓gp, gq, reduceCtorEq, Nat.reduceEqDiff, Nat.reduceLT, Nat.reduceLeDiff, Nat.reduceAdd, Nat.reduceMul, Nat.reduceSub, Nat.reduceBEq, Int.reduceToNat, Int.reduceLE, Int.reduceLT, Int.reduceNeg, Nat.reduceMod, sid_ne1, sid_ne2, sid_inj, sid_mod, gT, TK.isInt, TK.agg, Array.toList, h0a, h4a, h5a, hlt, hw1, hd, hw64, hsh, hadd]
    have hd2 : (!(decide True && decide (((byt t i - 97 : Nat) : Int) ≤ 5))) = false := by simp; omega
    refine ⟨fun _ => ⟨fun hc => (by simp at hc), fun _ => again_of (i + 1) (by refine ⟨?_, ?_, ?_, by omega⟩ <;> (first | (simp (maxSteps := 5000000) -dsimp only [gr, Nat.reduceEqDiff, Nat.reduceLT, Nat.reduceAdd, Nat.reduceMod, Nat.reduceBEq, sid_mod, sid_ne1, sid_ne2, sid_inj, h0a, h4a, h5a, hw1, hw64, hadd, wrap_nat hi (by omega)]; first | done | rfl | (simp; done)) | assumption | rfl)) (by first | omega | (simp only; omega) | (dsimp only; omega) | (show _ < _; simp; omega))⟩, fun hc => by rw [hd2] at hc; cases hc⟩
  · obtain rfl : i = t.size := by omega
    have hlt : ((t.size : Int) < (t.size : Int)) = False := eq_false (by omega)
    simp (maxSteps := 5000000) -dsimp only [↓gp, gq, reduceCtorEq, Nat.reduceEqDiff, Nat.reduceLT, Nat.reduceLeDiff, Nat.reduceAdd, Nat.reduceMul, Nat.reduceSub, Nat.reduceBEq, Int.reduceToNat, Int.reduceLE, Int.reduceLT, Int.reduceNeg, Nat.reduceMod, sid_ne1, sid_ne2, sid_inj, sid_mod, gT, TK.isInt, TK.agg, Array.toList, h0a, h4a, h5a, h.dash, h.empty, hlt]
/-- The sets of the parts. -/
def facs (ps : List ByteArray) : List Int := ps.map fun p => ((setV p p.size : Nat) : Int)
theorem facs_take {ps : List ByteArray} {k : Nat} (h : k < ps.length) : facs (ps.take (k + 1)) = facs (ps.take k) ++ [((setV (ps.getD k ⟨#[]⟩) (ps.getD k ⟨#[]⟩).size : Nat) : Int)] := by
  unfold facs
  rw [take_snoc ⟨#[]⟩ h, List.map_append]; rfl
def chr (n : Nat) : ByteArray := ⟨#[UInt8.ofNat (48 + n)]⟩
/-- A text that tells a complex. -/
structure OkText (t : ByteArray) (n : Nat) (rest : ByteArray) (ps : List ByteArray) : Prop where
  size : 2 ≤ t.size ∧ t.size ≤ 1000
  pts : 1 ≤ n ∧ n ≤ 6
  b0 : byt t 0 = 48 + n
  b1 : byt t 1 = 58
  tail : t.extract 2 t.size = rest
  rsize : rest.size ≤ 1000
  full : (rest.toList == (⟨#[]⟩ : ByteArray).toList) = false
  parts : splitB rest 44 = ps
  plen : ps.length ≤ 1000
  pne : 0 < ps.length
  sets : ∀ p ∈ ps, OkSet p
  head : splitB t 58 = [chr n, rest]
  cx : cxP n (facs ps)
theorem adopt_tvvv {s : St} (d : Nat) (x y z : Value) : adoptSt s d (.tup [.im (.v x), .im (.v y), .im (.v z)]) = s.put (some d) (.tup [.v x, .v y, .v z]) := by
  unfold adoptSt
  simp [leaves_tup, leaves, addRows, adopt2, adopt1, adoptL, adopt0, leafId, St.row, setIf]
theorem c_impl_parseHead {t rest : ByteArray} {n : Nat} {ps : List ByteArray} (h : OkText t n rest ps) : AC Try.prog 175 [str t] (.tup [.im (int n), .im (str rest), .im (bool true)]) := by
  refine AC.go (rs := [.tmp 2, .tmp 3, .tmp 4]) T_ok mixed Try.func175 rfl rfl rfl (by kernel_rfl) fun hl => ?_
  have h1 := h.size
  have h2 := h.pts
  have h3 : (t.data.toList.getD 0 0).toNat = 48 + n := h.b0
  have h4 : (t.data.toList.getD 1 0).toNat = 58 := h.b1
  simp (maxSteps := 5000000) -dsimp only [↓gp, gq, reduceCtorEq, Nat.reduceEqDiff, Nat.reduceLT, Nat.reduceLeDiff, Nat.reduceAdd, Nat.reduceMul, Nat.reduceSub, Nat.reduceBEq, Int.reduceToNat, Int.reduceLE, Int.reduceLT, Int.reduceNeg, Nat.reduceMod, sid_ne1, sid_ne2, sid_inj, sid_mod, gT, TK.isInt, TK.agg, Array.toList, h3, h4]
  have hw8 : IntKind.u8.wrap (((48 + n : Nat) : Int) - 48) = (n : Int) := by
    simp [IntKind.wrap, IntKind.bits, IntKind.signed]
    omega
  refine ⟨fun _ => ⟨by omega, fun _ => ⟨by omega, fun _ => ⟨by omega, fun hc => (by simp at hc), fun _ => ⟨by kernel_rfl, by omega, by omega, ?_, h.tail.symm⟩⟩, fun hc => (by omega)⟩, fun hc => (by omega)⟩, fun hc => (by omega)⟩
  rw [hw8, wrap_id (by omega) (by omega)]
theorem c_impl_ParseComplex {t rest : ByteArray} {n : Nat} {ps : List ByteArray} (h : OkText t n rest ps) : AC Try.prog 137 [str t] (.tup [.ag [.im (int n), .fr 3 1 (iL (facs ps))], .im (bool true)]) := by
  refine AC.go (rs := [.cell 2 27, .tmp 3]) T_ok mixed Try.func137 rfl rfl rfl (by kernel_rfl) fun hl => ?_
  simp (maxSteps := 5000000) -dsimp only [↓gp, gq, reduceCtorEq, Nat.reduceEqDiff, Nat.reduceLT, Nat.reduceLeDiff, Nat.reduceAdd, Nat.reduceMul, Nat.reduceSub, Nat.reduceBEq, Int.reduceToNat, Int.reduceLE, Int.reduceLT, Int.reduceNeg, Nat.reduceMod, sid_ne1, sid_ne2, sid_inj, sid_mod, gT, TK.isInt, TK.agg, Array.toList]
  refine askK_of (c_impl_parseHead h) ?_
  simp (maxSteps := 5000000) -dsimp only [↓gp, gq, reduceCtorEq, Nat.reduceEqDiff, Nat.reduceLT, Nat.reduceLeDiff, Nat.reduceAdd, Nat.reduceMul, Nat.reduceSub, Nat.reduceBEq, Int.reduceToNat, Int.reduceLE, Int.reduceLT, Int.reduceNeg, Nat.reduceMod, sid_ne1, sid_ne2, sid_inj, sid_mod, gT, TK.isInt, TK.agg, Array.toList, adopt_tvvv, h.full]
  refine askK_of (c_impl_SplitByte rest 44 h.rsize) ?_
  rw [h.parts]
  simp (maxSteps := 5000000) -dsimp only [↓gp, gq, reduceCtorEq, Nat.reduceEqDiff, Nat.reduceLT, Nat.reduceLeDiff, Nat.reduceAdd, Nat.reduceMul, Nat.reduceSub, Nat.reduceBEq, Int.reduceToNat, Int.reduceLE, Int.reduceLT, Int.reduceNeg, Nat.reduceMod, sid_ne1, sid_ne2, sid_inj, sid_mod, gT, TK.isInt, TK.agg, Array.toList, sL_length]
  refine loop_of (fun (za : Nat × Nat × PV × RK × Nat × Nat) s => match za with | (k, u, fc, kd, v, y) => s.sl 2 = .ref 2 1 0 ∧ s.rw 2 = ⟨1, .box 27 [int 0, .v (.slice none 0 0)]⟩ ∧ s.sl 7 = .ref 7 y 0 ∧ s.rw 7 = ⟨y, .box 27 [int n, fc]⟩ ∧ s.rw 44 = ⟨u, kd⟩ ∧ s.sl 26 = .own 26 v ∧ s.rw 26 = ⟨v, .sli 9 1 false (sL ps)⟩ ∧ s.sl 27 = int ps.length ∧ s.sl 28 = int k ∧ (k ≤ ps.length ∧ ((k = 0 ∧ fc = .v (.slice none 0 0)) ∨ (0 < k ∧ fc = .own 44 u ∧ kd = .sli 3 1 false (iL (facs (ps.take k))))))) (fun (k, u, fc, kd, v, y) => ps.length - k) ((0, 0, .v (.slice none 0 0), .dead, 1, 1)) (by refine ⟨?_, ?_, ?_, ?_, ?_, ?_, ?_, ?_, ?_, by simp⟩ <;> (first | (simp (maxSteps := 5000000) -dsimp only [gr, Nat.reduceEqDiff, Nat.reduceLT, Nat.reduceAdd, Nat.reduceMod, Nat.reduceBEq, sid_mod, sid_ne1, sid_ne2, sid_inj, sL_length]; first | done | rfl | (simp; done)) | assumption | rfl)) ?_
  intro (k, u, fc, kd, v, y) sa ⟨h2a, r2a, h7a, r7a, r44a, h26a, r26a, h27a, h28a, hIa⟩
  obtain ⟨hk, hfc⟩ := hIa
  have hfl : (facs (ps.take k)).length = k := by unfold facs; simp; omega
  rcases hfc with ⟨rfl, rfl⟩ | ⟨h0, rfl, rfl⟩
  · simp (maxSteps := 5000000) -dsimp only [↓gp, gq, reduceCtorEq, Nat.reduceEqDiff, Nat.reduceLT, Nat.reduceLeDiff, Nat.reduceAdd, Nat.reduceMul, Nat.reduceSub, Nat.reduceBEq, Int.reduceToNat, Int.reduceLE, Int.reduceLT, Int.reduceNeg, Nat.reduceMod, sid_ne1, sid_ne2, sid_inj, sid_mod, gT, TK.isInt, TK.agg, Array.toList, h2a, r2a, h7a, r7a, r44a, h26a, r26a, h27a, h28a, sL_length]
    refine ⟨fun hlt => ⟨hlt, hlt, askK_of (c_impl_ParseSet _ (h.sets _ (getD_mem ⟨#[]⟩ hlt))) ?_⟩, fun hge => ?_⟩
    · simp (maxSteps := 5000000) -dsimp only [↓gp, gq, reduceCtorEq, Nat.reduceEqDiff, Nat.reduceLT, Nat.reduceLeDiff, Nat.reduceAdd, Nat.reduceMul, Nat.reduceSub, Nat.reduceBEq, Int.reduceToNat, Int.reduceLE, Int.reduceLT, Int.reduceNeg, Nat.reduceMod, sid_ne1, sid_ne2, sid_inj, sid_mod, gT, TK.isInt, TK.agg, Array.toList, h2a, r2a, h7a, r7a, r44a, h26a, r26a, h27a, h28a, sL_length]
      have hf1 : facs (ps.take 1) = [((setV (ps.getD 0 ⟨#[]⟩) (ps.getD 0 ⟨#[]⟩).size : Nat) : Int)] := facs_take hlt
      exact again_of ((1, u + 1, .own 44 (u + 1), .sli 3 1 false (iL (facs (ps.take 1))), v, y)) (by refine ⟨?_, ?_, ?_, ?_, ?_, ?_, ?_, ?_, ?_, ⟨by omega, Or.inr ⟨by omega, rfl, rfl⟩⟩⟩ <;> (first | (simp (maxSteps := 5000000) -dsimp only [gr, Nat.reduceEqDiff, Nat.reduceLT, Nat.reduceAdd, Nat.reduceMod, Nat.reduceBEq, sid_mod, sid_ne1, sid_ne2, sid_inj, h2a, r2a, h7a, r7a, r44a, h26a, r26a, h27a, h28a, hf1]; first | done | rfl | (simp; done)) | assumption | rfl)) (by first | omega | (simp only; omega) | (dsimp only; omega) | (show _ < _; simp; omega))
    · exact absurd h.pne hge
  · simp (maxSteps := 5000000) -dsimp only [↓gp, gq, reduceCtorEq, Nat.reduceEqDiff, Nat.reduceLT, Nat.reduceLeDiff, Nat.reduceAdd, Nat.reduceMul, Nat.reduceSub, Nat.reduceBEq, Int.reduceToNat, Int.reduceLE, Int.reduceLT, Int.reduceNeg, Nat.reduceMod, sid_ne1, sid_ne2, sid_inj, sid_mod, gT, TK.isInt, TK.agg, Array.toList, h2a, r2a, h7a, r7a, r44a, h26a, r26a, h27a, h28a, sL_length, iL_length, hfl]
    refine ⟨fun hlt => ⟨hlt, hlt, askK_of (c_impl_ParseSet _ (h.sets _ (getD_mem ⟨#[]⟩ hlt))) ?_⟩, fun hge => ?_⟩
    · simp (maxSteps := 5000000) -dsimp only [↓gp, gq, reduceCtorEq, Nat.reduceEqDiff, Nat.reduceLT, Nat.reduceLeDiff, Nat.reduceAdd, Nat.reduceMul, Nat.reduceSub, Nat.reduceBEq, Int.reduceToNat, Int.reduceLE, Int.reduceLT, Int.reduceNeg, Nat.reduceMod, sid_ne1, sid_ne2, sid_inj, sid_mod, gT, TK.isInt, TK.agg, Array.toList, h2a, r2a, h7a, r7a, r44a, h26a, r26a, h27a, h28a, sL_length, hfl]
      have hpl := h.plen
      refine ⟨by omega, ?_⟩
      exact again_of ((k + 1, u + 1, .own 44 (u + 1), .sli 3 1 false (iL (facs (ps.take (k + 1)))), v, y)) (by refine ⟨?_, ?_, ?_, ?_, ?_, ?_, ?_, ?_, ?_, ⟨by omega, Or.inr ⟨by omega, rfl, rfl⟩⟩⟩ <;> (first | (simp (maxSteps := 5000000) -dsimp only [gr, Nat.reduceEqDiff, Nat.reduceLT, Nat.reduceAdd, Nat.reduceMod, Nat.reduceBEq, sid_mod, sid_ne1, sid_ne2, sid_inj, h2a, r2a, h7a, r7a, r44a, h26a, r26a, h27a, h28a, facs_take hlt, wrap_nat hlt (by omega)]; first | done | rfl | (simp; done)) | assumption | rfl)) (by first | omega | (simp only; omega) | (dsimp only; omega) | (show _ < _; simp; omega))
    · obtain rfl : k = ps.length := by omega
      rw [List.take_length]
      have hcx := isCx_yes h.cx
      refine askK_of (c_impl_IsComplex n (facs ps)) ?_
      simp (maxSteps := 5000000) -dsimp only [↓gp, gq, reduceCtorEq, Nat.reduceEqDiff, Nat.reduceLT, Nat.reduceLeDiff, Nat.reduceAdd, Nat.reduceMul, Nat.reduceSub, Nat.reduceBEq, Int.reduceToNat, Int.reduceLE, Int.reduceLT, Int.reduceNeg, Nat.reduceMod, sid_ne1, sid_ne2, sid_inj, sid_mod, gT, TK.isInt, TK.agg, Array.toList, h2a, r2a, h7a, r7a, r44a, h26a, r26a, h27a, h28a, hcx, hfl, List.take_length]

def cvRow (r : Row) (ver : Nat) (Kp : PV → Prop) : Prop := r.ver = ver ∧ match r.kind with
  | .nil => ∃ bs : List Int, [] = bs.map (fun n => PV.v (.int .u8 n)) ∧ Kp (.v (.string (bs.foldl (fun r n => r.push (UInt8.ofNat n.toNat)) ByteArray.empty)))
  | .sli _ sz _ c => sz = 1 ∧ ∃ bs : List Int, c = bs.map (fun n => PV.v (.int .u8 n)) ∧ Kp (.v (.string (bs.foldl (fun r n => r.push (UInt8.ofNat n.toNat)) ByteArray.empty)))
  | _ => False
theorem conv_own (rw : Nat → Row) (j ver : Nat) {Kp : PV → Prop} : convK T rw 31 9 (.own j ver) Kp = cvRow (rw j) ver Kp := by
  have ha : (T 31).k = .sli 5 := T31k
  have hb : (T 9).k = .str := T9k
  have he : (T 5).k = .int .u8 := T5k
  have s1 : (T 31).size = 1 := T31s
  have s2 : (T 9).size = 1 := T9s
  have s3 : (T 5).size = 1 := T5s
  unfold convK cvRow
  simp only [ha, hb, he, s1, s2, s3, slK]
  cases h : (rw j).kind <;> simp
theorem cvRow_one (ver e : Nat) (fz : Bool) (n : Int) {Kp : PV → Prop} : cvRow ⟨ver, .sli e 1 fz [.v (.int .u8 n)]⟩ ver Kp = Kp (.v (.string ([n].foldl (fun r n => r.push (UInt8.ofNat n.toNat)) ByteArray.empty))) := by
  unfold cvRow
  simp only [true_and]
  refine propext ⟨fun ⟨bs, hb, h⟩ => ?_, fun h => ⟨[n], rfl, h⟩⟩
  match bs, hb with
  | [m], hb => simp at hb; subst hb; exact h
theorem lit_u8 (n : Int) : lit [.v (.int .u8 n)] = [.v (.int .u8 n)] := rfl
theorem chr_size (n : Nat) : (chr n).size = 1 := rfl
theorem chr_at {n : Nat} (h : n ≤ 9) : ((chr n).data.toList.getD 0 0).toNat = 48 + n := by
  show (UInt8.ofNat (48 + n)).toNat = 48 + n
  simp
  omega
theorem chr_of {n : Nat} (h : n ≤ 9) : ([(48 + n : Int)].foldl (fun r n => r.push (UInt8.ofNat n.toNat)) ByteArray.empty) ++ ⟨#[]⟩ = chr n := by
  have : ∀ m : Fin 10, ([(48 + (m.val : Nat) : Int)].foldl (fun r n => r.push (UInt8.ofNat n.toNat)) ByteArray.empty) ++ ⟨#[]⟩ = chr m.val := by decide +kernel
  exact this ⟨n, by omega⟩
theorem c_spec_FormatInt {n : Nat} (h1 : 1 ≤ n) (h9 : n ≤ 9) : AC Try.prog 211 [int n] (.im (str (chr n))) := by
  refine AC.go (rs := [.tmp 2]) T_ok mixed Try.func211 rfl rfl rfl (by kernel_rfl) fun hl => ?_
  have e0 : ((n : Int) == 0) = false := beq_eq_false_iff_ne.2 (by omega)
  simp (maxSteps := 5000000) -dsimp only [↓gp, gq, reduceCtorEq, Nat.reduceEqDiff, Nat.reduceLT, Nat.reduceLeDiff, Nat.reduceAdd, Nat.reduceMul, Nat.reduceSub, Nat.reduceBEq, Int.reduceToNat, Int.reduceLE, Int.reduceLT, Int.reduceNeg, Nat.reduceMod, sid_ne1, sid_ne2, sid_inj, sid_mod, gT, TK.isInt, TK.agg, Array.toList, e0]
  refine loop_of (fun (za : Nat × ByteArray) s => match za with | (m, o) => s.sl 0 = int m ∧ s.sl 3 = bool false ∧ s.sl 4 = str o ∧ ((m = n ∧ o = ⟨#[]⟩) ∨ (m = 0 ∧ o = chr n))) (fun (m, o) => m) ((n, ⟨#[]⟩)) (by refine ⟨?_, ?_, ?_, Or.inl ⟨rfl, rfl⟩⟩ <;> (first | (simp (maxSteps := 5000000) -dsimp only [gr, Nat.reduceEqDiff, Nat.reduceLT, Nat.reduceAdd, Nat.reduceMod, Nat.reduceBEq, sid_mod, sid_ne1, sid_ne2, sid_inj, decide_eq_false (show ¬ ((n : Int) < 0) by omega)]; first | done | rfl | (simp; done)) | assumption | rfl)) ?_
  intro (m, o) sa ⟨h0a, h3a, h4a, hIa⟩
  rcases hIa with ⟨rfl, rfl⟩ | ⟨rfl, rfl⟩
  · have ht : ((m : Int)).tmod 10 = (m : Int) := Int.tmod_eq_of_lt (by omega) (by omega)
    have hw : IntKind.i64.wrap (48 + (m : Int)) = 48 + (m : Int) := wrap_id (by omega) (by omega)
    have hw8 : IntKind.u8.wrap (48 + (m : Int)) = 48 + (m : Int) := by
      simp [IntKind.wrap, IntKind.bits, IntKind.signed]
      omega
    have hq : ((m : Int)).tdiv 10 = 0 := Int.tdiv_eq_zero_of_lt (by omega) (by omega)
    have hc := chr_of h9
    simp (maxSteps := 5000000) -dsimp only [↓gp, gq, reduceCtorEq, Nat.reduceEqDiff, Nat.reduceLT, Nat.reduceLeDiff, Nat.reduceAdd, Nat.reduceMul, Nat.reduceSub, Nat.reduceBEq, Int.reduceToNat, Int.reduceLE, Int.reduceLT, Int.reduceNeg, Nat.reduceMod, sid_ne1, sid_ne2, sid_inj, sid_mod, gT, TK.isInt, TK.agg, Array.toList, h0a, h3a, h4a, conv_own, cvRow_one, lit_u8, ht, hw, hw8, hq, hc]
    refine ⟨fun _ => ⟨by decide, fun h => absurd h (by omega), fun _ => ⟨?_, by decide, again_of ((0, chr m)) (by refine ⟨?_, ?_, ?_, Or.inr ⟨rfl, rfl⟩⟩ <;> (first | (simp (maxSteps := 5000000) -dsimp only [gr, Nat.reduceEqDiff, Nat.reduceLT, Nat.reduceAdd, Nat.reduceMod, Nat.reduceBEq, sid_mod, sid_ne1, sid_ne2, sid_inj, h0a, h3a, h4a, ht, hw, hw8, hq, hc]; first | done | rfl | (simp; done)) | assumption | rfl)) (by first | omega | (simp only; omega) | (dsimp only; omega) | (show _ < _; simp; omega))⟩⟩, fun h => ?_⟩
    · show 1 + 0 ≤ 9223372036854775807
      omega
    · simp at h
      omega
  · simp (maxSteps := 5000000) -dsimp only [↓gp, gq, reduceCtorEq, Nat.reduceEqDiff, Nat.reduceLT, Nat.reduceLeDiff, Nat.reduceAdd, Nat.reduceMul, Nat.reduceSub, Nat.reduceBEq, Int.reduceToNat, Int.reduceLE, Int.reduceLT, Int.reduceNeg, Nat.reduceMod, sid_ne1, sid_ne2, sid_inj, sid_mod, gT, TK.isInt, TK.agg, Array.toList, h0a, h3a, h4a, show (((0 : Nat) : Int) != 0) = false from rfl]
theorem c_spec_l1Read {n : Nat} (h1 : 1 ≤ n) (h9 : n ≤ 9) : AC Try.prog 197 [str (chr n), int 12] (.tup [.im (int n), .im (bool true)]) := by
  refine AC.go (rs := [.tmp 4, .tmp 5]) T_ok mixed Try.func197 rfl rfl rfl (by kernel_rfl) fun hl => ?_
  have hc := chr_at h9
  have e45 : (((48 + n : Nat) : Int) == 45) = false := beq_eq_false_iff_ne.2 (by omega)
  have hz1 : ((1 : Nat) : Int) = 1 := rfl
  simp (maxSteps := 5000000) -dsimp only [↓gp, gq, reduceCtorEq, Nat.reduceEqDiff, Nat.reduceLT, Nat.reduceLeDiff, Nat.reduceAdd, Nat.reduceMul, Nat.reduceSub, Nat.reduceBEq, Int.reduceToNat, Int.reduceLE, Int.reduceLT, Int.reduceNeg, Nat.reduceMod, sid_ne1, sid_ne2, sid_inj, sid_mod, gT, TK.isInt, TK.agg, Array.toList, chr_size, hc, e45, hz1]
  refine loop_of (fun (i : Nat) s => s.sl 0 = str (chr n) ∧ s.sl 6 = bool false ∧ s.sl 7 = str (chr n) ∧ s.sl 8 = int (if i = 0 then 0 else n : Nat) ∧ s.sl 9 = int i ∧ (i ≤ 1)) (fun i => 1 - i) (0) (by refine ⟨?_, ?_, ?_, ?_, ?_, by simp⟩ <;> (first | (simp (maxSteps := 5000000) -dsimp only [gr, Nat.reduceEqDiff, Nat.reduceLT, Nat.reduceAdd, Nat.reduceMod, Nat.reduceBEq, sid_mod, sid_ne1, sid_ne2, sid_inj]; first | done | rfl | (simp; done)) | assumption | rfl)) ?_
  intro i sa ⟨h0a, h6a, h7a, h8a, h9a, hIa⟩
  have hi : i = 0 ∨ i = 1 := by omega
  rcases hi with rfl | rfl
  · have z0 : ((0 : Nat) : Int) = 0 := rfl
    have hw8 : IntKind.u8.wrap (((48 + n : Nat) : Int) - 48) = (n : Int) := by
      simp [IntKind.wrap, IntKind.bits, IntKind.signed]
      omega
    have hw : IntKind.i64.wrap (n : Int) = (n : Int) := wrap_id (by omega) (by omega)
    have hm : IntKind.i64.wrap (10 * 0) = 0 := by decide
    have ha : IntKind.i64.wrap (0 + (n : Int)) = (n : Int) := by rw [Int.zero_add]; exact hw
    have h01 : IntKind.i64.wrap (0 + 1) = 1 := by decide
    simp (maxSteps := 5000000) -dsimp only [↓gp, gq, reduceCtorEq, Nat.reduceEqDiff, Nat.reduceLT, Nat.reduceLeDiff, Nat.reduceAdd, Nat.reduceMul, Nat.reduceSub, Nat.reduceBEq, Int.reduceToNat, Int.reduceLE, Int.reduceLT, Int.reduceNeg, Nat.reduceMod, sid_ne1, sid_ne2, sid_inj, sid_mod, gT, TK.isInt, TK.agg, Array.toList, h0a, h6a, h7a, h8a, h9a, chr_size, hc, hz1, z0]
    refine ⟨fun _ => ⟨fun hx => absurd hx (by omega), fun _ => again_of (1) (by refine ⟨?_, ?_, ?_, ?_, ?_, by omega⟩ <;> (first | (simp (maxSteps := 5000000) -dsimp only [gr, Nat.reduceEqDiff, Nat.reduceLT, Nat.reduceAdd, Nat.reduceMod, Nat.reduceBEq, sid_mod, sid_ne1, sid_ne2, sid_inj, h0a, h6a, h7a, h8a, h9a, hw8, hw, hm, ha, h01]; first | done | rfl | (simp; done)) | assumption | rfl)) (by first | omega | (simp only; omega) | (dsimp only; omega) | (show _ < _; simp; omega))⟩, fun hx => absurd hx (by omega)⟩
  · simp (maxSteps := 5000000) -dsimp only [↓gp, gq, reduceCtorEq, Nat.reduceEqDiff, Nat.reduceLT, Nat.reduceLeDiff, Nat.reduceAdd, Nat.reduceMul, Nat.reduceSub, Nat.reduceBEq, Int.reduceToNat, Int.reduceLE, Int.reduceLT, Int.reduceNeg, Nat.reduceMod, sid_ne1, sid_ne2, sid_inj, sid_mod, gT, TK.isInt, TK.agg, Array.toList, h0a, h6a, h7a, h8a, h9a, chr_size, hc, hz1]
    refine askK_of (c_spec_FormatInt h1 h9) ?_
    simp (maxSteps := 5000000) -dsimp only [↓gp, gq, reduceCtorEq, Nat.reduceEqDiff, Nat.reduceLT, Nat.reduceLeDiff, Nat.reduceAdd, Nat.reduceMul, Nat.reduceSub, Nat.reduceBEq, Int.reduceToNat, Int.reduceLE, Int.reduceLT, Int.reduceNeg, Nat.reduceMod, sid_ne1, sid_ne2, sid_inj, sid_mod, gT, TK.isInt, TK.agg, Array.toList, h0a, h6a, h7a, h8a, h9a, chr_size, beq_self_eq_true]
theorem c_spec_ParseInt {n : Nat} (h1 : 1 ≤ n) (h9 : n ≤ 9) : AC Try.prog 170 [str (chr n)] (.tup [.im (int n), .im (bool true)]) := by
  refine AC.go (rs := [.tmp 2, .tmp 3]) T_ok mixed Try.func170 rfl rfl rfl (by kernel_rfl) fun hl => ?_
  simp (maxSteps := 5000000) -dsimp only [↓gp, gq, reduceCtorEq, Nat.reduceEqDiff, Nat.reduceLT, Nat.reduceLeDiff, Nat.reduceAdd, Nat.reduceMul, Nat.reduceSub, Nat.reduceBEq, Int.reduceToNat, Int.reduceLE, Int.reduceLT, Int.reduceNeg, Nat.reduceMod, sid_ne1, sid_ne2, sid_inj, sid_mod, gT, TK.isInt, TK.agg, Array.toList]
  refine askK_of (c_spec_l1Read h1 h9) ?_
  simp (maxSteps := 5000000) -dsimp only [↓gp, gq, reduceCtorEq, Nat.reduceEqDiff, Nat.reduceLT, Nat.reduceLeDiff, Nat.reduceAdd, Nat.reduceMul, Nat.reduceSub, Nat.reduceBEq, Int.reduceToNat, Int.reduceLE, Int.reduceLT, Int.reduceNeg, Nat.reduceMod, sid_ne1, sid_ne2, sid_inj, sid_mod, gT, TK.isInt, TK.agg, Array.toList]
theorem c_spec_ParseComplex {t rest : ByteArray} {n : Nat} {ps : List ByteArray} (h : OkText t n rest ps) : AC Try.prog 133 [str t] (.tup [.ag [.im (int n), .fr 3 1 (iL (facs ps))], .im (bool true)]) := by
  refine AC.go (rs := [.cell 2 27, .tmp 3]) T_ok mixed Try.func133 rfl rfl rfl (by kernel_rfl) fun hl => ?_
  simp (maxSteps := 5000000) -dsimp only [↓gp, gq, reduceCtorEq, Nat.reduceEqDiff, Nat.reduceLT, Nat.reduceLeDiff, Nat.reduceAdd, Nat.reduceMul, Nat.reduceSub, Nat.reduceBEq, Int.reduceToNat, Int.reduceLE, Int.reduceLT, Int.reduceNeg, Nat.reduceMod, sid_ne1, sid_ne2, sid_inj, sid_mod, gT, TK.isInt, TK.agg, Array.toList]
  refine askK_of (c_spec_SplitByte t 58 h.size.2) ?_
  rw [h.head]
  have hz2 : (((2 : Nat) : Int) != 2) = false := rfl
  simp (maxSteps := 5000000) -dsimp only [↓gp, gq, reduceCtorEq, Nat.reduceEqDiff, Nat.reduceLT, Nat.reduceLeDiff, Nat.reduceAdd, Nat.reduceMul, Nat.reduceSub, Nat.reduceBEq, Int.reduceToNat, Int.reduceLE, Int.reduceLT, Int.reduceNeg, Nat.reduceMod, sid_ne1, sid_ne2, sid_inj, sid_mod, gT, TK.isInt, TK.agg, Array.toList, sL_length, hz2]
  refine ⟨by omega, askK_of (c_spec_ParseInt h.pts.1 (by have := h.pts; omega)) ?_⟩
  simp (maxSteps := 5000000) -dsimp only [↓gp, gq, reduceCtorEq, Nat.reduceEqDiff, Nat.reduceLT, Nat.reduceLeDiff, Nat.reduceAdd, Nat.reduceMul, Nat.reduceSub, Nat.reduceBEq, Int.reduceToNat, Int.reduceLE, Int.reduceLT, Int.reduceNeg, Nat.reduceMod, sid_ne1, sid_ne2, sid_inj, sid_mod, gT, TK.isInt, TK.agg, Array.toList]
  refine ⟨by omega, askK_of (c_spec_SplitByte rest 44 h.rsize) ?_⟩
  rw [h.parts]
  simp (maxSteps := 5000000) -dsimp only [↓gp, gq, reduceCtorEq, Nat.reduceEqDiff, Nat.reduceLT, Nat.reduceLeDiff, Nat.reduceAdd, Nat.reduceMul, Nat.reduceSub, Nat.reduceBEq, Int.reduceToNat, Int.reduceLE, Int.reduceLT, Int.reduceNeg, Nat.reduceMod, sid_ne1, sid_ne2, sid_inj, sid_mod, gT, TK.isInt, TK.agg, Array.toList, sL_length]
  refine loop_of (fun (za : Nat × Nat × PV × RK × Nat × Nat × Nat) s => match za with | (k, u, fc, kd, v, y, z) => s.sl 2 = .ref 2 1 0 ∧ s.rw 2 = ⟨1, .box 27 [int 0, .v (.slice none 0 0)]⟩ ∧ s.sl 7 = .ref 7 y 0 ∧ s.rw 7 = ⟨y, .box 27 [int n, fc]⟩ ∧ s.rw 58 = ⟨u, kd⟩ ∧ s.sl 4 = .own 13 z ∧ s.rw 13 = ⟨z, .sli 9 1 false (sL [chr n, rest])⟩ ∧ s.sl 6 = bool true ∧ s.sl 8 = .own 30 v ∧ s.rw 30 = ⟨v, .sli 9 1 false (sL ps)⟩ ∧ s.sl 9 = int k ∧ (k ≤ ps.length ∧ ((k = 0 ∧ fc = .v (.slice none 0 0)) ∨ (0 < k ∧ fc = .own 58 u ∧ kd = .sli 3 1 false (iL (facs (ps.take k))))))) (fun (k, u, fc, kd, v, y, z) => ps.length - k) ((0, 0, .v (.slice none 0 0), .dead, 1, 1, 1)) (by refine ⟨?_, ?_, ?_, ?_, ?_, ?_, ?_, ?_, ?_, ?_, ?_, by simp⟩ <;> (first | (simp (maxSteps := 5000000) -dsimp only [gr, Nat.reduceEqDiff, Nat.reduceLT, Nat.reduceAdd, Nat.reduceMod, Nat.reduceBEq, sid_mod, sid_ne1, sid_ne2, sid_inj, sL_length]; first | done | rfl | (simp; done)) | assumption | rfl)) ?_
  intro (k, u, fc, kd, v, y, z) sa ⟨h2a, r2a, h7a, r7a, r58a, h4a, r13a, h6a, h8a, r30a, h9a, hIa⟩
  obtain ⟨hk, hfc⟩ := hIa
  have hfl : (facs (ps.take k)).length = k := by unfold facs; simp; omega
  have hr1 : [chr n, rest].getD 1 ⟨#[]⟩ = rest := rfl
  rcases hfc with ⟨rfl, rfl⟩ | ⟨h0, rfl, rfl⟩
  · simp (maxSteps := 5000000) -dsimp only [↓gp, gq, reduceCtorEq, Nat.reduceEqDiff, Nat.reduceLT, Nat.reduceLeDiff, Nat.reduceAdd, Nat.reduceMul, Nat.reduceSub, Nat.reduceBEq, Int.reduceToNat, Int.reduceLE, Int.reduceLT, Int.reduceNeg, Nat.reduceMod, sid_ne1, sid_ne2, sid_inj, sid_mod, gT, TK.isInt, TK.agg, Array.toList, h2a, r2a, h7a, r7a, r58a, h4a, r13a, h6a, h8a, r30a, h9a, sL_length, hr1, h.full]
    refine ⟨fun hlt => ⟨by omega, hlt, hlt, askK_of (c_spec_ParseSet _ (h.sets _ (getD_mem ⟨#[]⟩ hlt))) ?_⟩, fun hge => absurd h.pne hge⟩
    simp (maxSteps := 5000000) -dsimp only [↓gp, gq, reduceCtorEq, Nat.reduceEqDiff, Nat.reduceLT, Nat.reduceLeDiff, Nat.reduceAdd, Nat.reduceMul, Nat.reduceSub, Nat.reduceBEq, Int.reduceToNat, Int.reduceLE, Int.reduceLT, Int.reduceNeg, Nat.reduceMod, sid_ne1, sid_ne2, sid_inj, sid_mod, gT, TK.isInt, TK.agg, Array.toList, h2a, r2a, h7a, r7a, r58a, h4a, r13a, h6a, h8a, r30a, h9a, sL_length]
    have hf1 : facs (ps.take 1) = [((setV (ps.getD 0 ⟨#[]⟩) (ps.getD 0 ⟨#[]⟩).size : Nat) : Int)] := facs_take hlt
    exact again_of ((1, u + 1, .own 58 (u + 1), .sli 3 1 false (iL (facs (ps.take 1))), v, y, z)) (by refine ⟨?_, ?_, ?_, ?_, ?_, ?_, ?_, ?_, ?_, ?_, ?_, ⟨by omega, Or.inr ⟨by omega, rfl, rfl⟩⟩⟩ <;> (first | (simp (maxSteps := 5000000) -dsimp only [gr, Nat.reduceEqDiff, Nat.reduceLT, Nat.reduceAdd, Nat.reduceMod, Nat.reduceBEq, sid_mod, sid_ne1, sid_ne2, sid_inj, h2a, r2a, h7a, r7a, r58a, h4a, r13a, h6a, h8a, r30a, h9a, hf1]; first | done | rfl | (simp; done)) | assumption | rfl)) (by first | omega | (simp only; omega) | (dsimp only; omega) | (show _ < _; simp; omega))
  · simp (maxSteps := 5000000) -dsimp only [↓gp, gq, reduceCtorEq, Nat.reduceEqDiff, Nat.reduceLT, Nat.reduceLeDiff, Nat.reduceAdd, Nat.reduceMul, Nat.reduceSub, Nat.reduceBEq, Int.reduceToNat, Int.reduceLE, Int.reduceLT, Int.reduceNeg, Nat.reduceMod, sid_ne1, sid_ne2, sid_inj, sid_mod, gT, TK.isInt, TK.agg, Array.toList, h2a, r2a, h7a, r7a, r58a, h4a, r13a, h6a, h8a, r30a, h9a, sL_length, iL_length, hfl, hr1, h.full]
    refine ⟨fun hlt => ⟨by omega, hlt, hlt, askK_of (c_spec_ParseSet _ (h.sets _ (getD_mem ⟨#[]⟩ hlt))) ?_⟩, fun hge => ?_⟩
    · simp (maxSteps := 5000000) -dsimp only [↓gp, gq, reduceCtorEq, Nat.reduceEqDiff, Nat.reduceLT, Nat.reduceLeDiff, Nat.reduceAdd, Nat.reduceMul, Nat.reduceSub, Nat.reduceBEq, Int.reduceToNat, Int.reduceLE, Int.reduceLT, Int.reduceNeg, Nat.reduceMod, sid_ne1, sid_ne2, sid_inj, sid_mod, gT, TK.isInt, TK.agg, Array.toList, h2a, r2a, h7a, r7a, r58a, h4a, r13a, h6a, h8a, r30a, h9a, sL_length, hfl]
      have hpl := h.plen
      refine ⟨by omega, ?_⟩
      exact again_of ((k + 1, u + 1, .own 58 (u + 1), .sli 3 1 false (iL (facs (ps.take (k + 1)))), v, y, z)) (by refine ⟨?_, ?_, ?_, ?_, ?_, ?_, ?_, ?_, ?_, ?_, ?_, ⟨by omega, Or.inr ⟨by omega, rfl, rfl⟩⟩⟩ <;> (first | (simp (maxSteps := 5000000) -dsimp only [gr, Nat.reduceEqDiff, Nat.reduceLT, Nat.reduceAdd, Nat.reduceMod, Nat.reduceBEq, sid_mod, sid_ne1, sid_ne2, sid_inj, h2a, r2a, h7a, r7a, r58a, h4a, r13a, h6a, h8a, r30a, h9a, facs_take hlt, wrap_nat hlt (by omega)]; first | done | rfl | (simp; done)) | assumption | rfl)) (by first | omega | (simp only; omega) | (dsimp only; omega) | (show _ < _; simp; omega))
    · obtain rfl : k = ps.length := by omega
      rw [List.take_length]
      have hcx := isCx_yes h.cx
      refine askK_of (c_spec_IsComplex n (facs ps)) ?_
      simp (maxSteps := 5000000) -dsimp only [↓gp, gq, reduceCtorEq, Nat.reduceEqDiff, Nat.reduceLT, Nat.reduceLeDiff, Nat.reduceAdd, Nat.reduceMul, Nat.reduceSub, Nat.reduceBEq, Int.reduceToNat, Int.reduceLE, Int.reduceLT, Int.reduceNeg, Nat.reduceMod, sid_ne1, sid_ne2, sid_inj, sid_mod, gT, TK.isInt, TK.agg, Array.toList, h2a, r2a, h7a, r7a, r58a, h4a, r13a, h6a, h8a, r30a, h9a, hcx, hfl, List.take_length]
end Go.Proofs.Ytpnknaaehcljoaa

namespace Go.Proofs.Ytpnknaaehcljoaa
open Go.Abs
set_option linter.unusedSimpArgs false
set_option linter.unusedVariables false

end Go.Proofs.Ytpnknaaehcljoaa

namespace Go.Proofs.Ytpnknaaehcljoaa
open Go.Abs
set_option linter.unusedSimpArgs false
set_option linter.unusedVariables false

end Go.Proofs.Ytpnknaaehcljoaa

namespace Go.Proofs.Ytpnknaaehcljoaa
open Go.Abs
set_option linter.unusedSimpArgs false
set_option linter.unusedVariables false

end Go.Proofs.Ytpnknaaehcljoaa

namespace Go.Proofs.Ytpnknaaehcljoaa
open Go.Abs
set_option linter.unusedSimpArgs false
set_option linter.unusedVariables false

end Go.Proofs.Ytpnknaaehcljoaa

namespace Go.Proofs.Ytpnknaaehcljoaa
open Go.Abs
set_option linter.unusedSimpArgs false
set_option linter.unusedVariables false

end Go.Proofs.Ytpnknaaehcljoaa

namespace Go.Proofs.Ytpnknaaehcljoaa
open Go.Abs
set_option linter.unusedSimpArgs false
set_option linter.unusedVariables false

end Go.Proofs.Ytpnknaaehcljoaa

namespace Go.Proofs.Ytpnknaaehcljoaa
open Go.Abs
set_option linter.unusedSimpArgs false
set_option linter.unusedVariables false

end Go.Proofs.Ytpnknaaehcljoaa

namespace Go.Proofs.Ytpnknaaehcljoaa
open Go.Abs
set_option linter.unusedSimpArgs false
set_option linter.unusedVariables false

theorem szOf_nat {t : Nat} (h : t < 64) : szOf (t : Int) = (popN t : Nat) := by rw [szOf, if_pos (by omega)]; simp
theorem topP_succ (f : Nat → Bool) (m : Nat) : topP f (m + 1) = if f m = true then max (topP f m) (popN m + 1) else topP f m := rfl
theorem c_impl_topSize (f : Nat → Bool) : AC Try.prog 125 [u64 (maskF f 64 : Nat)] (.im (int ((dimN f : Int) - 1))) := by
  refine AC.go (rs := [.tmp 2]) T_ok mixed Try.func125 rfl rfl rfl (by kernel_rfl) fun hl => ?_
  simp (maxSteps := 5000000) -dsimp only [↓gp, gq, reduceCtorEq, Nat.reduceEqDiff, Nat.reduceLT, Nat.reduceLeDiff, Nat.reduceAdd, Nat.reduceMul, Nat.reduceSub, Nat.reduceBEq, Int.reduceToNat, Int.reduceLE, Int.reduceLT, Int.reduceNeg, Nat.reduceMod, sid_ne1, sid_ne2, sid_inj, sid_mod, gT, TK.isInt, TK.agg, Array.toList]
  have hm1 := maskF_lt f 64
  refine loop_of (fun (m : Nat) s => s.sl 0 = u64 (maskF f 64 : Nat) ∧ s.sl 3 = int ((topP f m : Int) - 1) ∧ s.sl 4 = int m ∧ (m ≤ 64)) (fun m => 64 - m) (0) (by refine ⟨?_, ?_, ?_, by omega⟩ <;> (first | (simp (maxSteps := 5000000) -dsimp only [gr, Nat.reduceEqDiff, Nat.reduceLT, Nat.reduceAdd, Nat.reduceMod, Nat.reduceBEq, sid_mod, sid_ne1, sid_ne2, sid_inj, topP]; first | done | rfl | (simp; done)) | assumption | rfl)) ?_
  intro m sa ⟨h0a, h3a, h4a, hIa⟩
  simp (maxSteps := 5000000) -dsimp only [↓gp, gq, reduceCtorEq, Nat.reduceEqDiff, Nat.reduceLT, Nat.reduceLeDiff, Nat.reduceAdd, Nat.reduceMul, Nat.reduceSub, Nat.reduceBEq, Int.reduceToNat, Int.reduceLE, Int.reduceLT, Int.reduceNeg, Nat.reduceMod, sid_ne1, sid_ne2, sid_inj, sid_mod, gT, TK.isInt, TK.agg, Array.toList, h0a, h3a, h4a]
  refine ⟨fun h => askK_of (c_impl_hasSet (maskF f 64) m (by omega) (by omega)) ?_, fun h => ?_⟩
  · have h : m < 64 := by omega
    rw [mask_bit64 f h]
    simp (maxSteps := 5000000) -dsimp only [↓gp, gq, reduceCtorEq, Nat.reduceEqDiff, Nat.reduceLT, Nat.reduceLeDiff, Nat.reduceAdd, Nat.reduceMul, Nat.reduceSub, Nat.reduceBEq, Int.reduceToNat, Int.reduceLE, Int.reduceLT, Int.reduceNeg, Nat.reduceMod, sid_ne1, sid_ne2, sid_inj, sid_mod, gT, TK.isInt, TK.agg, Array.toList, h0a, h3a, h4a]
    refine ⟨fun hf => askK_of (c_impl_SizeOf _) ?_, fun hf => ?_⟩
    · simp (maxSteps := 5000000) -dsimp only [↓gp, gq, reduceCtorEq, Nat.reduceEqDiff, Nat.reduceLT, Nat.reduceLeDiff, Nat.reduceAdd, Nat.reduceMul, Nat.reduceSub, Nat.reduceBEq, Int.reduceToNat, Int.reduceLE, Int.reduceLT, Int.reduceNeg, Nat.reduceMod, sid_ne1, sid_ne2, sid_inj, sid_mod, gT, TK.isInt, TK.agg, Array.toList, h0a, h3a, h4a, szOf_nat h]
      refine ⟨fun hg => askK_of (c_impl_SizeOf _) ?_, fun hg => ?_⟩
      · simp (maxSteps := 5000000) -dsimp only [↓gp, gq, reduceCtorEq, Nat.reduceEqDiff, Nat.reduceLT, Nat.reduceLeDiff, Nat.reduceAdd, Nat.reduceMul, Nat.reduceSub, Nat.reduceBEq, Int.reduceToNat, Int.reduceLE, Int.reduceLT, Int.reduceNeg, Nat.reduceMod, sid_ne1, sid_ne2, sid_inj, sid_mod, gT, TK.isInt, TK.agg, Array.toList, h0a, h3a, h4a, szOf_nat h]
        have e : (topP f (m + 1) : Int) - 1 = (popN m : Int) := by rw [topP_succ, if_pos hf]; omega
        exact again_of (m + 1) (by refine ⟨?_, ?_, ?_, by omega⟩ <;> (first | (simp (maxSteps := 5000000) -dsimp only [gr, Nat.reduceEqDiff, Nat.reduceLT, Nat.reduceAdd, Nat.reduceMod, Nat.reduceBEq, sid_mod, sid_ne1, sid_ne2, sid_inj, h0a, h3a, h4a, wrap_nat h (by omega), szOf_nat h, e]; first | done | rfl | (simp; done)) | assumption | rfl)) (by first | omega | (simp only; omega) | (dsimp only; omega) | (show _ < _; simp; omega))
      · have e : topP f (m + 1) = topP f m := by rw [topP_succ, if_pos hf]; omega
        exact again_of (m + 1) (by refine ⟨?_, ?_, ?_, by omega⟩ <;> (first | (simp (maxSteps := 5000000) -dsimp only [gr, Nat.reduceEqDiff, Nat.reduceLT, Nat.reduceAdd, Nat.reduceMod, Nat.reduceBEq, sid_mod, sid_ne1, sid_ne2, sid_inj, h0a, h3a, h4a, wrap_nat h (by omega), e]; first | done | rfl | (simp; done)) | assumption | rfl)) (by first | omega | (simp only; omega) | (dsimp only; omega) | (show _ < _; simp; omega))
    · have e : topP f (m + 1) = topP f m := by rw [topP_succ, if_neg (by rw [hf]; decide)]
      exact again_of (m + 1) (by refine ⟨?_, ?_, ?_, by omega⟩ <;> (first | (simp (maxSteps := 5000000) -dsimp only [gr, Nat.reduceEqDiff, Nat.reduceLT, Nat.reduceAdd, Nat.reduceMod, Nat.reduceBEq, sid_mod, sid_ne1, sid_ne2, sid_inj, h0a, h3a, h4a, wrap_nat h (by omega), e]; first | done | rfl | (simp; done)) | assumption | rfl)) (by first | omega | (simp only; omega) | (dsimp only; omega) | (show _ < _; simp; omega))
  · have : m = 64 := by omega
    subst this; rfl
theorem ordS_step {f : Nat → Bool} {m j : Nat} (hf : f m = true) : ordS f j (m + 1) = if j = popN m then ordS f j m ++ [m] else ordS f j m := by
  rw [ordS_succ, hf]
  by_cases e : j = popN m
  · subst e; simp
  · have : ¬ popN m = j := fun h => e h.symm
    simp [e, this]
theorem ordS_stay {f : Nat → Bool} {m j : Nat} (hf : f m = false) : ordS f j (m + 1) = ordS f j m := by rw [ordS_succ, hf]; simp
def sizesL (f : Nat → Bool) : Mat := (List.range (dimN f)).map fun k => ofN (ordS f k 64)
theorem sizesL_length (f : Nat → Bool) : (sizesL f).length = dimN f := by simp [sizesL]
theorem sizesL_getD (f : Nat → Bool) {k : Nat} (h : k < dimN f) : (sizesL f).getD k [] = ofN (ordS f k 64) := by simp [sizesL, List.getD, h]
theorem c_impl_bySize0 (f : Nat → Bool) : AC Try.prog 155 [u64 (maskF f 64 : Nat)] (.tb 22 3 ((List.range (dimN f)).map fun j => iL (ofN (ordS f j 64)))) := by
  refine AC.go (rs := [.tmp 2]) T_ok mixed Try.func155 rfl rfl rfl (by kernel_rfl) fun hl => ?_
  have hm1 := maskF_lt f 64
  have hd := dimN_le f
  simp (maxSteps := 5000000) -dsimp only [↓gp, gq, reduceCtorEq, Nat.reduceEqDiff, Nat.reduceLT, Nat.reduceLeDiff, Nat.reduceAdd, Nat.reduceMul, Nat.reduceSub, Nat.reduceBEq, Int.reduceToNat, Int.reduceLE, Int.reduceLT, Int.reduceNeg, Nat.reduceMod, sid_ne1, sid_ne2, sid_inj, sid_mod, gT, TK.isInt, TK.agg, Array.toList]
  refine askK_of (c_impl_topSize f) ?_
  have hw : IntKind.i64.wrap ((dimN f : Int) - 1 + 1) = (dimN f : Int) := by rw [wrap_id (by omega) (by omega)]; omega
  simp (maxSteps := 5000000) -dsimp only [↓gp, gq, reduceCtorEq, Nat.reduceEqDiff, Nat.reduceLT, Nat.reduceLeDiff, Nat.reduceAdd, Nat.reduceMul, Nat.reduceSub, Nat.reduceBEq, Int.reduceToNat, Int.reduceLE, Int.reduceLT, Int.reduceNeg, Nat.reduceMod, sid_ne1, sid_ne2, sid_inj, sid_mod, gT, TK.isInt, TK.agg, Array.toList, hw]
  refine ⟨by omega, by omega, ?_⟩
  refine loop_nils (k := 9) (v := 1) (e := 22) (e2 := 3) (n := dimN f) (by simp (maxSteps := 5000000) -dsimp only [gr, Nat.reduceEqDiff, Nat.reduceLT, Nat.reduceAdd, Nat.reduceMod, Nat.reduceBEq, sid_mod, sid_ne1, sid_ne2, sid_inj, hw]) (fun j => by simp (maxSteps := 5000000) -dsimp only [gr, Nat.reduceEqDiff, Nat.reduceLT, Nat.reduceAdd, Nat.reduceMod, Nat.reduceBEq, sid_mod, sid_ne1, sid_ne2, sid_inj]) (fun (m : Nat) s => s.sl 0 = u64 (maskF f 64 : Nat) ∧ s.sl 3 = .own 9 1 ∧ s.sl 4 = int m ∧ (m ≤ 64 ∧ TabF s.rw 9 1 22 3 (dimN f) (fun j => 1 + (ordS f j m).length) (fun j => ofN (ordS f j m)))) (fun m => 64 - m) (0) (fun sX htX hslX hoX => (by refine ⟨?_, ?_, ?_, ⟨by omega, htX⟩⟩ <;> (first | (simp (maxSteps := 5000000) -dsimp only [gr, Nat.reduceEqDiff, Nat.reduceLT, Nat.reduceAdd, Nat.reduceMod, Nat.reduceBEq, sid_mod, sid_ne1, sid_ne2, sid_inj, hslX, hoX]; first | done | rfl | (simp; done)) | assumption | rfl))) ?_
  intro m sa ⟨h0a, h3a, h4a, hIa⟩
  obtain ⟨hm, ht⟩ := hIa
  simp (maxSteps := 5000000) -dsimp only [↓gp, gq, reduceCtorEq, Nat.reduceEqDiff, Nat.reduceLT, Nat.reduceLeDiff, Nat.reduceAdd, Nat.reduceMul, Nat.reduceSub, Nat.reduceBEq, Int.reduceToNat, Int.reduceLE, Int.reduceLT, Int.reduceNeg, Nat.reduceMod, sid_ne1, sid_ne2, sid_inj, sid_mod, gT, TK.isInt, TK.agg, Array.toList, h0a, h3a, h4a]
  refine ⟨fun h => askK_of (c_impl_hasSet (maskF f 64) m (by omega) (by omega)) ?_, fun h => ?_⟩
  · have h : m < 64 := by omega
    rw [mask_bit64 f h]
    simp (maxSteps := 5000000) -dsimp only [↓gp, gq, reduceCtorEq, Nat.reduceEqDiff, Nat.reduceLT, Nat.reduceLeDiff, Nat.reduceAdd, Nat.reduceMul, Nat.reduceSub, Nat.reduceBEq, Int.reduceToNat, Int.reduceLE, Int.reduceLT, Int.reduceNeg, Nat.reduceMod, sid_ne1, sid_ne2, sid_inj, sid_mod, gT, TK.isInt, TK.agg, Array.toList, h0a, h3a, h4a]
    refine ⟨fun hf => askK_of (c_impl_SizeOf _) ?_, fun hf => ?_⟩
    · have hk : popN m < dimN f := topP_ge 64 m h hf
      have hr := ht.row (popN m) hk
      have hol := ordS_len f (popN m) hm
      simp (maxSteps := 5000000) -dsimp only [↓gp, gq, reduceCtorEq, Nat.reduceEqDiff, Nat.reduceLT, Nat.reduceLeDiff, Nat.reduceAdd, Nat.reduceMul, Nat.reduceSub, Nat.reduceBEq, Int.reduceToNat, Int.reduceLE, Int.reduceLT, Int.reduceNeg, Nat.reduceMod, sid_ne1, sid_ne2, sid_inj, sid_mod, gT, TK.isInt, TK.agg, Array.toList, h0a, h3a, h4a, szOf_nat h, ht.top, cellsF_length, ld_cellsF, hr, ofN_length]
      refine ⟨hk, hk, by omega, hk, by omega, again_of (m + 1) ⟨(by (first | (simp (maxSteps := 5000000) -dsimp only [gr, Nat.reduceEqDiff, Nat.reduceLT, Nat.reduceAdd, Nat.reduceMod, Nat.reduceBEq, sid_mod, sid_ne1, sid_ne2, sid_inj, h0a, h3a, h4a, wrap_nat h (by omega)]; first | done | rfl | (simp; done)) | assumption | rfl)), (by (first | (simp (maxSteps := 5000000) -dsimp only [gr, Nat.reduceEqDiff, Nat.reduceLT, Nat.reduceAdd, Nat.reduceMod, Nat.reduceBEq, sid_mod, sid_ne1, sid_ne2, sid_inj, h0a, h3a, h4a, wrap_nat h (by omega)]; first | done | rfl | (simp; done)) | assumption | rfl)), (by (first | (simp (maxSteps := 5000000) -dsimp only [gr, Nat.reduceEqDiff, Nat.reduceLT, Nat.reduceAdd, Nat.reduceMod, Nat.reduceBEq, sid_mod, sid_ne1, sid_ne2, sid_inj, h0a, h3a, h4a, wrap_nat h (by omega)]; first | done | rfl | (simp; done)) | assumption | rfl)), ⟨by omega, ht.add hk (r := ofN (ordS f (popN m) m) ++ [(m : Int)]) (by simp (maxSteps := 5000000) -dsimp only [gr, Nat.reduceEqDiff, Nat.reduceLT, Nat.reduceAdd, Nat.reduceMod, Nat.reduceBEq, sid_mod, sid_ne1, sid_ne2, sid_inj, h0a, h3a, h4a]) (by simp (maxSteps := 5000000) -dsimp only [gr, Nat.reduceEqDiff, Nat.reduceLT, Nat.reduceAdd, Nat.reduceMod, Nat.reduceBEq, sid_mod, sid_ne1, sid_ne2, sid_inj, h0a, h3a, h4a]) (fun x hx => by simp (maxSteps := 5000000) -dsimp only [gr, Nat.reduceEqDiff, Nat.reduceLT, Nat.reduceAdd, Nat.reduceMod, Nat.reduceBEq, sid_mod, sid_ne1, sid_ne2, sid_inj, h0a, h3a, h4a, hx]) (fun j _ => ?_) (fun j _ => ?_)⟩⟩ (by first | omega | (simp only; omega) | (dsimp only; omega) | (show _ < _; simp; omega))⟩
      · rw [ordS_step hf]
        split
        · rename_i e; subst e; simp; omega
        · rfl
      · rw [ordS_step hf]
        split
        · rename_i e; subst e; rw [ofN_append]; rfl
        · rfl
    · have e : ∀ j, ordS f j (m + 1) = ordS f j m := fun j => ordS_stay hf
      refine again_of (m + 1) ⟨(by (first | (simp (maxSteps := 5000000) -dsimp only [gr, Nat.reduceEqDiff, Nat.reduceLT, Nat.reduceAdd, Nat.reduceMod, Nat.reduceBEq, sid_mod, sid_ne1, sid_ne2, sid_inj, h0a, h3a, h4a, wrap_nat h (by omega)]; first | done | rfl | (simp; done)) | assumption | rfl)), (by (first | (simp (maxSteps := 5000000) -dsimp only [gr, Nat.reduceEqDiff, Nat.reduceLT, Nat.reduceAdd, Nat.reduceMod, Nat.reduceBEq, sid_mod, sid_ne1, sid_ne2, sid_inj, h0a, h3a, h4a, wrap_nat h (by omega)]; first | done | rfl | (simp; done)) | assumption | rfl)), (by (first | (simp (maxSteps := 5000000) -dsimp only [gr, Nat.reduceEqDiff, Nat.reduceLT, Nat.reduceAdd, Nat.reduceMod, Nat.reduceBEq, sid_mod, sid_ne1, sid_ne2, sid_inj, h0a, h3a, h4a, wrap_nat h (by omega)]; first | done | rfl | (simp; done)) | assumption | rfl)), ⟨by omega, ?_⟩⟩ (by first | omega | (simp only; omega) | (dsimp only; omega) | (show _ < _; simp; omega))
      simp only [e]
      exact ht.same (by simp (maxSteps := 5000000) -dsimp only [gr, Nat.reduceEqDiff, Nat.reduceLT, Nat.reduceAdd, Nat.reduceMod, Nat.reduceBEq, sid_mod, sid_ne1, sid_ne2, sid_inj]) (fun x => by simp (maxSteps := 5000000) -dsimp only [gr, Nat.reduceEqDiff, Nat.reduceLT, Nat.reduceAdd, Nat.reduceMod, Nat.reduceBEq, sid_mod, sid_ne1, sid_ne2, sid_inj])
  · have : m = 64 := by omega
    subst this
    exact out2_tabF ht (by decide) (by omega)
theorem c_impl_bySize (f : Nat → Bool) : AC Try.prog 155 [u64 (maskF f 64 : Nat)] (.fr 22 1 (iLL (sizesL f))) := by
  have := (c_impl_bySize0 f).flat
  unfold sizesL iLL
  rw [List.map_map] at this ⊢
  exact this
end Go.Proofs.Ytpnknaaehcljoaa

namespace Go.Proofs.Ytpnknaaehcljoaa
open Go.Abs
set_option linter.unusedSimpArgs false
set_option linter.unusedVariables false

end Go.Proofs.Ytpnknaaehcljoaa

namespace Go.Proofs.Ytpnknaaehcljoaa
open Go.Abs
set_option linter.unusedSimpArgs false
set_option linter.unusedVariables false

end Go.Proofs.Ytpnknaaehcljoaa

namespace Go.Proofs.Ytpnknaaehcljoaa
open Go.Abs
set_option linter.unusedSimpArgs false
set_option linter.unusedVariables false

theorem cx_len {n : Int} {xs : List Int} (h : isCx n xs = true) : xs.length ≤ 64 := by
  have hn := cx_nodup (isCx_iff.1 h)
  have hx := cx_ok h
  have h2 : (xs.map Int.toNat).Nodup := by
    refine List.Pairwise.map _ (fun a b => ?_) (List.Pairwise.imp_of_mem (S := fun a b => 0 ≤ a ∧ 0 ≤ b ∧ a ≠ b) (fun ha hb hab => ⟨(hx _ ha).1, (hx _ hb).1, hab⟩) hn)
    intro ⟨q1, q2, q3⟩ e
    omega
  refine Classical.byContradiction fun hc => ?_
  have := (perm_of_sub (m := List.range 64) h2 (fun x hx' => ?_) (by simp; omega)).length_eq
  · simp at this; omega
  · obtain ⟨y, hy, rfl⟩ := List.mem_map.1 hx'
    have := hx y hy
    exact List.mem_range.2 (by omega)
end Go.Proofs.Ytpnknaaehcljoaa

namespace Go.Proofs.Ytpnknaaehcljoaa
open Go.Abs
set_option linter.unusedSimpArgs false
set_option linter.unusedVariables false

end Go.Proofs.Ytpnknaaehcljoaa

namespace Go.Proofs.Ytpnknaaehcljoaa
open Go.Abs
set_option linter.unusedSimpArgs false
set_option linter.unusedVariables false

end Go.Proofs.Ytpnknaaehcljoaa

namespace Go.Proofs.Ytpnknaaehcljoaa
open Go.Abs
set_option linter.unusedSimpArgs false
set_option linter.unusedVariables false

end Go.Proofs.Ytpnknaaehcljoaa

namespace Go.Proofs.Ytpnknaaehcljoaa
open Go.Abs
set_option linter.unusedSimpArgs false
set_option linter.unusedVariables false

end Go.Proofs.Ytpnknaaehcljoaa

namespace Go.Proofs.Ytpnknaaehcljoaa
open Go.Abs
set_option linter.unusedSimpArgs false
set_option linter.unusedVariables false

end Go.Proofs.Ytpnknaaehcljoaa

namespace Go.Proofs.Ytpnknaaehcljoaa
open Go.Abs
set_option linter.unusedSimpArgs false
set_option linter.unusedVariables false

end Go.Proofs.Ytpnknaaehcljoaa

namespace Go.Proofs.Ytpnknaaehcljoaa
open Go.Abs
set_option linter.unusedSimpArgs false
set_option linter.unusedVariables false

end Go.Proofs.Ytpnknaaehcljoaa

namespace Go.Proofs.Ytpnknaaehcljoaa
open Go.Abs
set_option linter.unusedSimpArgs false
set_option linter.unusedVariables false

end Go.Proofs.Ytpnknaaehcljoaa

namespace Go.Proofs.Ytpnknaaehcljoaa
open Go.Abs
set_option linter.unusedSimpArgs false
set_option linter.unusedVariables false

/-- A complex, checked by counting bits. -/
def cx6 (n : Nat) (l : List Nat) : Bool := decide (1 ≤ n) && decide (n ≤ 6) && (List.range l.length).all fun k =>
  decide (l.getD k 0 < 2 ^ n) && (decide (k = 0) || (if pop6 (l.getD (k - 1) 0) = pop6 (l.getD k 0) then decide (l.getD (k - 1) 0 < l.getD k 0) else decide (pop6 (l.getD (k - 1) 0) < pop6 (l.getD k 0)))) &&
  (List.range k).all fun i => !(l.getD i 0 &&& l.getD k 0 == l.getD i 0)
theorem ofN_at {l : List Nat} {k : Nat} (h : k < l.length) : (ofN l).getD k 0 = ((l.getD k 0 : Nat) : Int) := ofN_getD h
theorem cx6_ok {n : Nat} {l : List Nat} (h : cx6 n l = true) : cxP n (ofN l) := by
  unfold cx6 at h
  simp only [Bool.and_eq_true, decide_eq_true_eq, List.all_eq_true, List.mem_range, Bool.or_eq_true, Bool.not_eq_true'] at h
  obtain ⟨⟨h1, h6⟩, hall⟩ := h
  refine ⟨by omega, by omega, fun k hk => ?_⟩
  rw [ofN_length] at hk
  obtain ⟨⟨ha, hb⟩, hc⟩ := hall k hk
  have hp := two_pow_le h6
  have hk64 : l.getD k 0 < 64 := by omega
  have at64 : ∀ i, i < l.length → l.getD i 0 < 64 := fun i hi => by have := (hall i hi).1.1; omega
  refine ⟨?_, fun h0 => ?_, fun i hi => ?_⟩
  · rw [ofN_at hk]
    unfold inSet
    refine decide_eq_true ⟨by omega, by omega, by omega, ?_⟩
    rw [pow_nat]
    omega
  · have hb := hb.resolve_left (by omega)
    have hj64 := at64 (k - 1) (by omega)
    rw [ofN_at hk, ofN_at (show k - 1 < l.length by omega)]
    generalize l.getD (k - 1) 0 = a at *
    generalize l.getD k 0 = b at *
    have ea : szOf (a : Int) = (pop6 a : Nat) := by rw [szOf, if_pos (by omega), Int.toNat_natCast, popN_6 hj64]
    have eb : szOf (b : Int) = (pop6 b : Nat) := by rw [szOf, if_pos (by omega), Int.toNat_natCast, popN_6 hk64]
    unfold befS
    rw [ea, eb, decide_eq_true (show (0 : Int) ≤ a ∧ (a : Int) < 64 by omega), decide_eq_true (show (0 : Int) ≤ b ∧ (b : Int) < 64 by omega)]
    simp only [Bool.true_and]
    by_cases he : pop6 a = pop6 b
    · rw [if_pos he] at hb
      rw [if_pos (by omega)]
      exact decide_eq_true (by have := of_decide_eq_true hb; omega)
    · rw [if_neg he] at hb
      rw [if_neg (by omega)]
      exact decide_eq_true (by have := of_decide_eq_true hb; omega)
  · have hq := hc i hi
    have hi64 := at64 i (by omega)
    rw [ofN_at hk, ofN_at (show i < l.length by omega), iand_nat (by omega) (by omega)]
    intro e
    have e : l.getD i 0 &&& l.getD k 0 = l.getD i 0 := Int.ofNat.inj e
    rw [e] at hq
    simp at hq
theorem facs_ofN (ps : List ByteArray) : facs ps = ofN (ps.map fun p => setV p p.size) := by
  unfold facs ofN
  rw [List.map_map]; rfl
/-- All but the sets' checks are plain sums. -/
theorem okText {t rest : ByteArray} {n : Nat} {ps : List ByteArray} (size : decide (2 ≤ t.size ∧ t.size ≤ 1000) = true) (pts : decide (1 ≤ n ∧ n ≤ 6) = true) (b0 : byt t 0 = 48 + n) (b1 : byt t 1 = 58) (tail : t.extract 2 t.size = rest)
    (rsize : decide (rest.size ≤ 1000) = true) (full : (rest.toList == (⟨#[]⟩ : ByteArray).toList) = false) (parts : splitB rest 44 = ps) (plen : decide (0 < ps.length ∧ ps.length ≤ 1000) = true) (sets : ps.all okSet = true)
    (head : splitB t 58 = [chr n, rest]) (cx : cx6 n (ps.map fun p => setV p p.size) = true) : OkText t n rest ps :=
  ⟨of_decide_eq_true size, of_decide_eq_true pts, b0, b1, tail, of_decide_eq_true rsize, full, parts, (of_decide_eq_true plen).2, (of_decide_eq_true plen).1, fun p hp => okSet_ok (List.all_eq_true.1 sets p hp), head, by rw [facs_ofN]; exact cx6_ok cx⟩
def ex1 : ByteArray := ⟨#[52, 58, 97, 98, 99, 44, 97, 98, 100, 44, 97, 99, 100, 44, 98, 99, 100]⟩
def ps1 : List ByteArray := [⟨#[97, 98, 99]⟩, ⟨#[97, 98, 100]⟩, ⟨#[97, 99, 100]⟩, ⟨#[98, 99, 100]⟩]
theorem okt1 : OkText ex1 4 ⟨#[97, 98, 99, 44, 97, 98, 100, 44, 97, 99, 100, 44, 98, 99, 100]⟩ ps1 := okText (by kernel_rfl) (by kernel_rfl) (by kernel_rfl) (by kernel_rfl) (by kernel_rfl) (by kernel_rfl) (by kernel_rfl) (by kernel_rfl) (by kernel_rfl) (by kernel_rfl) (by kernel_rfl) (by kernel_rfl)
def ex2 : ByteArray := ⟨#[54, 58, 97, 99, 100, 44, 98, 99, 100, 44, 97, 98, 101, 44, 97, 99, 101, 44, 98, 100, 101, 44, 97, 98, 102, 44, 98, 99, 102, 44, 97, 100, 102, 44, 99, 101, 102, 44, 100, 101, 102]⟩
def ps2 : List ByteArray := [⟨#[97, 99, 100]⟩, ⟨#[98, 99, 100]⟩, ⟨#[97, 98, 101]⟩, ⟨#[97, 99, 101]⟩, ⟨#[98, 100, 101]⟩, ⟨#[97, 98, 102]⟩, ⟨#[98, 99, 102]⟩, ⟨#[97, 100, 102]⟩, ⟨#[99, 101, 102]⟩, ⟨#[100, 101, 102]⟩]
theorem okt2 : OkText ex2 6 ⟨#[97, 99, 100, 44, 98, 99, 100, 44, 97, 98, 101, 44, 97, 99, 101, 44, 98, 100, 101, 44, 97, 98, 102, 44, 98, 99, 102, 44, 97, 100, 102, 44, 99, 101, 102, 44, 100, 101, 102]⟩ ps2 := okText (by kernel_rfl) (by kernel_rfl) (by kernel_rfl) (by kernel_rfl) (by kernel_rfl) (by kernel_rfl) (by kernel_rfl) (by kernel_rfl) (by kernel_rfl) (by kernel_rfl) (by kernel_rfl) (by kernel_rfl)
def ex3 : ByteArray := ⟨#[53, 58, 97, 98, 44, 98, 99, 44, 99, 100, 44, 97, 101, 44, 100, 101]⟩
def ps3 : List ByteArray := [⟨#[97, 98]⟩, ⟨#[98, 99]⟩, ⟨#[99, 100]⟩, ⟨#[97, 101]⟩, ⟨#[100, 101]⟩]
theorem okt3 : OkText ex3 5 ⟨#[97, 98, 44, 98, 99, 44, 99, 100, 44, 97, 101, 44, 100, 101]⟩ ps3 := okText (by kernel_rfl) (by kernel_rfl) (by kernel_rfl) (by kernel_rfl) (by kernel_rfl) (by kernel_rfl) (by kernel_rfl) (by kernel_rfl) (by kernel_rfl) (by kernel_rfl) (by kernel_rfl) (by kernel_rfl)
def ex4 : ByteArray := ⟨#[53, 58, 97, 98, 99, 44, 99, 100, 101]⟩
def ps4 : List ByteArray := [⟨#[97, 98, 99]⟩, ⟨#[99, 100, 101]⟩]
theorem okt4 : OkText ex4 5 ⟨#[97, 98, 99, 44, 99, 100, 101]⟩ ps4 := okText (by kernel_rfl) (by kernel_rfl) (by kernel_rfl) (by kernel_rfl) (by kernel_rfl) (by kernel_rfl) (by kernel_rfl) (by kernel_rfl) (by kernel_rfl) (by kernel_rfl) (by kernel_rfl) (by kernel_rfl)
def ex5 : ByteArray := ⟨#[54, 58, 97, 98, 99, 44, 97, 99, 100, 44, 97, 98, 101, 44, 97, 100, 101, 44, 98, 99, 102, 44, 99, 100, 102, 44, 98, 101, 102, 44, 100, 101, 102]⟩
def ps5 : List ByteArray := [⟨#[97, 98, 99]⟩, ⟨#[97, 99, 100]⟩, ⟨#[97, 98, 101]⟩, ⟨#[97, 100, 101]⟩, ⟨#[98, 99, 102]⟩, ⟨#[99, 100, 102]⟩, ⟨#[98, 101, 102]⟩, ⟨#[100, 101, 102]⟩]
theorem okt5 : OkText ex5 6 ⟨#[97, 98, 99, 44, 97, 99, 100, 44, 97, 98, 101, 44, 97, 100, 101, 44, 98, 99, 102, 44, 99, 100, 102, 44, 98, 101, 102, 44, 100, 101, 102]⟩ ps5 := okText (by kernel_rfl) (by kernel_rfl) (by kernel_rfl) (by kernel_rfl) (by kernel_rfl) (by kernel_rfl) (by kernel_rfl) (by kernel_rfl) (by kernel_rfl) (by kernel_rfl) (by kernel_rfl) (by kernel_rfl)
def ex6 : ByteArray := ⟨#[54, 58, 97, 98, 44, 99, 100, 44, 101, 102]⟩
def ps6 : List ByteArray := [⟨#[97, 98]⟩, ⟨#[99, 100]⟩, ⟨#[101, 102]⟩]
theorem okt6 : OkText ex6 6 ⟨#[97, 98, 44, 99, 100, 44, 101, 102]⟩ ps6 := okText (by kernel_rfl) (by kernel_rfl) (by kernel_rfl) (by kernel_rfl) (by kernel_rfl) (by kernel_rfl) (by kernel_rfl) (by kernel_rfl) (by kernel_rfl) (by kernel_rfl) (by kernel_rfl) (by kernel_rfl)
def ex7 : ByteArray := ⟨#[52, 58, 97, 98, 44, 98, 99, 44, 99, 100]⟩
def ps7 : List ByteArray := [⟨#[97, 98]⟩, ⟨#[98, 99]⟩, ⟨#[99, 100]⟩]
theorem okt7 : OkText ex7 4 ⟨#[97, 98, 44, 98, 99, 44, 99, 100]⟩ ps7 := okText (by kernel_rfl) (by kernel_rfl) (by kernel_rfl) (by kernel_rfl) (by kernel_rfl) (by kernel_rfl) (by kernel_rfl) (by kernel_rfl) (by kernel_rfl) (by kernel_rfl) (by kernel_rfl) (by kernel_rfl)
def ex8 : ByteArray := ⟨#[53, 58, 97, 98, 99, 44, 97, 98, 100, 44, 99, 100, 101]⟩
def ps8 : List ByteArray := [⟨#[97, 98, 99]⟩, ⟨#[97, 98, 100]⟩, ⟨#[99, 100, 101]⟩]
theorem okt8 : OkText ex8 5 ⟨#[97, 98, 99, 44, 97, 98, 100, 44, 99, 100, 101]⟩ ps8 := okText (by kernel_rfl) (by kernel_rfl) (by kernel_rfl) (by kernel_rfl) (by kernel_rfl) (by kernel_rfl) (by kernel_rfl) (by kernel_rfl) (by kernel_rfl) (by kernel_rfl) (by kernel_rfl) (by kernel_rfl)
def exText (k : Int) : ByteArray := if k = 1 then ex1 else if k = 2 then ex2 else if k = 3 then ex3 else if k = 4 then ex4 else if k = 5 then ex5 else if k = 6 then ex6 else if k = 7 then ex7 else if k = 8 then ex8 else ⟨#[]⟩
def exPts (k : Int) : Nat := if k = 1 then 4 else if k = 2 then 6 else if k = 3 then 5 else if k = 4 then 5 else if k = 5 then 6 else if k = 6 then 6 else if k = 7 then 4 else if k = 8 then 5 else 0
def exPs (k : Int) : List ByteArray := if k = 1 then ps1 else if k = 2 then ps2 else if k = 3 then ps3 else if k = 4 then ps4 else if k = 5 then ps5 else if k = 6 then ps6 else if k = 7 then ps7 else if k = 8 then ps8 else []
theorem exText_out {k : Int} (h : ¬ (1 ≤ k ∧ k ≤ 8)) : exText k = ⟨#[]⟩ := by
  unfold exText
  rw [if_neg (by omega)]
  rw [if_neg (by omega)]
  rw [if_neg (by omega)]
  rw [if_neg (by omega)]
  rw [if_neg (by omega)]
  rw [if_neg (by omega)]
  rw [if_neg (by omega)]
  rw [if_neg (by omega)]
theorem exPts_out {k : Int} (h : ¬ (1 ≤ k ∧ k ≤ 8)) : exPts k = 0 := by
  unfold exPts
  rw [if_neg (by omega)]
  rw [if_neg (by omega)]
  rw [if_neg (by omega)]
  rw [if_neg (by omega)]
  rw [if_neg (by omega)]
  rw [if_neg (by omega)]
  rw [if_neg (by omega)]
  rw [if_neg (by omega)]
theorem exPs_out {k : Int} (h : ¬ (1 ≤ k ∧ k ≤ 8)) : exPs k = [] := by
  unfold exPs
  rw [if_neg (by omega)]
  rw [if_neg (by omega)]
  rw [if_neg (by omega)]
  rw [if_neg (by omega)]
  rw [if_neg (by omega)]
  rw [if_neg (by omega)]
  rw [if_neg (by omega)]
  rw [if_neg (by omega)]
theorem exText_in {k : Int} (h : 1 ≤ k ∧ k ≤ 8) : ∃ rest, OkText (exText k) (exPts k) rest (exPs k) := by
  have : k = 1 ∨ k = 2 ∨ k = 3 ∨ k = 4 ∨ k = 5 ∨ k = 6 ∨ k = 7 ∨ k = 8 := by omega
  rcases this with rfl | rfl | rfl | rfl | rfl | rfl | rfl | rfl
  · exact ⟨_, okt1⟩
  · exact ⟨_, okt2⟩
  · exact ⟨_, okt3⟩
  · exact ⟨_, okt4⟩
  · exact ⟨_, okt5⟩
  · exact ⟨_, okt6⟩
  · exact ⟨_, okt7⟩
  · exact ⟨_, okt8⟩
theorem ex_eq {k j : Int} {b : ByteArray} (e : (k == j) = true) (h : exText j = b) : exText k = b := by rw [beq_iff_eq.1 e]; exact h
theorem c_impl_ExampleText (k : Int) : AC Try.prog 138 [int k] (.im (str (exText k))) := by
  refine AC.go (rs := [.tmp 2]) T_ok mixed Try.func138 rfl rfl rfl (by kernel_rfl) fun hl => ?_
  simp (maxSteps := 5000000) -dsimp only [↓gp, gq, reduceCtorEq, Nat.reduceEqDiff, Nat.reduceLT, Nat.reduceLeDiff, Nat.reduceAdd, Nat.reduceMul, Nat.reduceSub, Nat.reduceBEq, Int.reduceToNat, Int.reduceLE, Int.reduceLT, Int.reduceNeg, Nat.reduceMod, sid_ne1, sid_ne2, sid_inj, sid_mod, gT, TK.isInt, TK.agg, Array.toList]
  exact ⟨fun e => ex_eq e rfl, fun n1 => ⟨fun e => ex_eq e rfl, fun n2 => ⟨fun e => ex_eq e rfl, fun n3 => ⟨fun e => ex_eq e rfl, fun n4 => ⟨fun e => ex_eq e rfl, fun n5 => ⟨fun e => ex_eq e rfl, fun n6 => ⟨fun e => ex_eq e rfl, fun n7 => ⟨fun e => ex_eq e rfl, fun n8 => exText_out (by have := beq_eq_false_iff_ne.1 n1; have := beq_eq_false_iff_ne.1 n2; have := beq_eq_false_iff_ne.1 n3; have := beq_eq_false_iff_ne.1 n4; have := beq_eq_false_iff_ne.1 n5; have := beq_eq_false_iff_ne.1 n6; have := beq_eq_false_iff_ne.1 n7; have := beq_eq_false_iff_ne.1 n8; omega)⟩⟩⟩⟩⟩⟩⟩⟩
theorem c_spec_ExampleText (k : Int) : AC Try.prog 134 [int k] (.im (str (exText k))) := by
  refine AC.go (rs := [.tmp 2]) T_ok mixed Try.func134 rfl rfl rfl (by kernel_rfl) fun hl => ?_
  simp (maxSteps := 5000000) -dsimp only [↓gp, gq, reduceCtorEq, Nat.reduceEqDiff, Nat.reduceLT, Nat.reduceLeDiff, Nat.reduceAdd, Nat.reduceMul, Nat.reduceSub, Nat.reduceBEq, Int.reduceToNat, Int.reduceLE, Int.reduceLT, Int.reduceNeg, Nat.reduceMod, sid_ne1, sid_ne2, sid_inj, sid_mod, gT, TK.isInt, TK.agg, Array.toList]
  exact ⟨fun e => ex_eq e rfl, fun n1 => ⟨fun e => ex_eq e rfl, fun n2 => ⟨fun e => ex_eq e rfl, fun n3 => ⟨fun e => ex_eq e rfl, fun n4 => ⟨fun e => ex_eq e rfl, fun n5 => ⟨fun e => ex_eq e rfl, fun n6 => ⟨fun e => ex_eq e rfl, fun n7 => ⟨fun e => ex_eq e rfl, fun n8 => exText_out (by have := beq_eq_false_iff_ne.1 n1; have := beq_eq_false_iff_ne.1 n2; have := beq_eq_false_iff_ne.1 n3; have := beq_eq_false_iff_ne.1 n4; have := beq_eq_false_iff_ne.1 n5; have := beq_eq_false_iff_ne.1 n6; have := beq_eq_false_iff_ne.1 n7; have := beq_eq_false_iff_ne.1 n8; omega)⟩⟩⟩⟩⟩⟩⟩⟩
theorem c_impl_ParseComplex_0 : AC Try.prog 137 [str ⟨#[]⟩] (.tup [.ag [.im (int 0), .fr 3 1 (iL [])], .im (bool false)]) := by
  refine AC.go (rs := [.cell 2 27, .tmp 3]) T_ok mixed Try.func137 rfl rfl rfl (by kernel_rfl) fun hl => ?_
  simp (maxSteps := 5000000) -dsimp only [↓gp, gq, reduceCtorEq, Nat.reduceEqDiff, Nat.reduceLT, Nat.reduceLeDiff, Nat.reduceAdd, Nat.reduceMul, Nat.reduceSub, Nat.reduceBEq, Int.reduceToNat, Int.reduceLE, Int.reduceLT, Int.reduceNeg, Nat.reduceMod, sid_ne1, sid_ne2, sid_inj, sid_mod, gT, TK.isInt, TK.agg, Array.toList]
  have h0 : AC Try.prog 175 [str ⟨#[]⟩] (.tup [.im (int 0), .im (str ⟨#[]⟩), .im (bool false)]) := by
    refine AC.go (rs := [.tmp 2, .tmp 3, .tmp 4]) T_ok mixed Try.func175 rfl rfl rfl (by kernel_rfl) fun hl => ?_
    have hz : (((⟨#[]⟩ : ByteArray).size : Nat) : Int) = 0 := rfl
    simp (maxSteps := 5000000) -dsimp only [↓gp, gq, reduceCtorEq, Nat.reduceEqDiff, Nat.reduceLT, Nat.reduceLeDiff, Nat.reduceAdd, Nat.reduceMul, Nat.reduceSub, Nat.reduceBEq, Int.reduceToNat, Int.reduceLE, Int.reduceLT, Int.reduceNeg, Nat.reduceMod, sid_ne1, sid_ne2, sid_inj, sid_mod, gT, TK.isInt, TK.agg, Array.toList, hz]
  refine askK_of h0 ?_
  simp (maxSteps := 5000000) -dsimp only [↓gp, gq, reduceCtorEq, Nat.reduceEqDiff, Nat.reduceLT, Nat.reduceLeDiff, Nat.reduceAdd, Nat.reduceMul, Nat.reduceSub, Nat.reduceBEq, Int.reduceToNat, Int.reduceLE, Int.reduceLT, Int.reduceNeg, Nat.reduceMod, sid_ne1, sid_ne2, sid_inj, sid_mod, gT, TK.isInt, TK.agg, Array.toList, adopt_tvvv]
  rfl
theorem c_spec_ParseComplex_0 : AC Try.prog 133 [str ⟨#[]⟩] (.tup [.ag [.im (int 0), .fr 3 1 (iL [])], .im (bool false)]) := by
  refine AC.go (rs := [.cell 2 27, .tmp 3]) T_ok mixed Try.func133 rfl rfl rfl (by kernel_rfl) fun hl => ?_
  simp (maxSteps := 5000000) -dsimp only [↓gp, gq, reduceCtorEq, Nat.reduceEqDiff, Nat.reduceLT, Nat.reduceLeDiff, Nat.reduceAdd, Nat.reduceMul, Nat.reduceSub, Nat.reduceBEq, Int.reduceToNat, Int.reduceLE, Int.reduceLT, Int.reduceNeg, Nat.reduceMod, sid_ne1, sid_ne2, sid_inj, sid_mod, gT, TK.isInt, TK.agg, Array.toList]
  refine askK_of (c_spec_SplitByte ⟨#[]⟩ 58 (by decide)) ?_
  have hz : (((splitB ⟨#[]⟩ 58).length : Nat) : Int) = 1 := rfl
  have hz2 : ((1 : Int) != 2) = true := rfl
  simp (maxSteps := 5000000) -dsimp only [↓gp, gq, reduceCtorEq, Nat.reduceEqDiff, Nat.reduceLT, Nat.reduceLeDiff, Nat.reduceAdd, Nat.reduceMul, Nat.reduceSub, Nat.reduceBEq, Int.reduceToNat, Int.reduceLE, Int.reduceLT, Int.reduceNeg, Nat.reduceMod, sid_ne1, sid_ne2, sid_inj, sid_mod, gT, TK.isInt, TK.agg, Array.toList, sL_length, hz, hz2]
  rfl
theorem c_impl_ExampleComplex (k : Int) : AC Try.prog 74 [int k] (.tup [.ag [.im (int (exPts k)), .fr 3 1 (iL (facs (exPs k)))], .im (bool (decide (1 ≤ k ∧ k ≤ 8)))]) := by
  refine AC.go (rs := [.cell 2 27, .tmp 3]) T_ok mixed Try.func74 rfl rfl rfl (by kernel_rfl) fun hl => ?_
  simp (maxSteps := 5000000) -dsimp only [↓gp, gq, reduceCtorEq, Nat.reduceEqDiff, Nat.reduceLT, Nat.reduceLeDiff, Nat.reduceAdd, Nat.reduceMul, Nat.reduceSub, Nat.reduceBEq, Int.reduceToNat, Int.reduceLE, Int.reduceLT, Int.reduceNeg, Nat.reduceMod, sid_ne1, sid_ne2, sid_inj, sid_mod, gT, TK.isInt, TK.agg, Array.toList]
  refine askK_of (c_impl_ExampleText k) ?_
  by_cases h : 1 ≤ k ∧ k ≤ 8
  · obtain ⟨rest, ht⟩ := exText_in h
    rw [decide_eq_true h]
    simp (maxSteps := 5000000) -dsimp only [↓gp, gq, reduceCtorEq, Nat.reduceEqDiff, Nat.reduceLT, Nat.reduceLeDiff, Nat.reduceAdd, Nat.reduceMul, Nat.reduceSub, Nat.reduceBEq, Int.reduceToNat, Int.reduceLE, Int.reduceLT, Int.reduceNeg, Nat.reduceMod, sid_ne1, sid_ne2, sid_inj, sid_mod, gT, TK.isInt, TK.agg, Array.toList]
    refine askK_of (c_impl_ParseComplex ht) ?_
    simp (maxSteps := 5000000) -dsimp only [↓gp, gq, reduceCtorEq, Nat.reduceEqDiff, Nat.reduceLT, Nat.reduceLeDiff, Nat.reduceAdd, Nat.reduceMul, Nat.reduceSub, Nat.reduceBEq, Int.reduceToNat, Int.reduceLE, Int.reduceLT, Int.reduceNeg, Nat.reduceMod, sid_ne1, sid_ne2, sid_inj, sid_mod, gT, TK.isInt, TK.agg, Array.toList]
  · rw [exText_out h, exPts_out h, exPs_out h, decide_eq_false h]
    simp (maxSteps := 5000000) -dsimp only [↓gp, gq, reduceCtorEq, Nat.reduceEqDiff, Nat.reduceLT, Nat.reduceLeDiff, Nat.reduceAdd, Nat.reduceMul, Nat.reduceSub, Nat.reduceBEq, Int.reduceToNat, Int.reduceLE, Int.reduceLT, Int.reduceNeg, Nat.reduceMod, sid_ne1, sid_ne2, sid_inj, sid_mod, gT, TK.isInt, TK.agg, Array.toList]
    refine askK_of c_impl_ParseComplex_0 ?_
    simp (maxSteps := 5000000) -dsimp only [↓gp, gq, reduceCtorEq, Nat.reduceEqDiff, Nat.reduceLT, Nat.reduceLeDiff, Nat.reduceAdd, Nat.reduceMul, Nat.reduceSub, Nat.reduceBEq, Int.reduceToNat, Int.reduceLE, Int.reduceLT, Int.reduceNeg, Nat.reduceMod, sid_ne1, sid_ne2, sid_inj, sid_mod, gT, TK.isInt, TK.agg, Array.toList, facs, List.map_nil]
    rfl
theorem c_spec_ExampleComplex (k : Int) : AC Try.prog 70 [int k] (.tup [.ag [.im (int (exPts k)), .fr 3 1 (iL (facs (exPs k)))], .im (bool (decide (1 ≤ k ∧ k ≤ 8)))]) := by
  refine AC.go (rs := [.cell 2 27, .tmp 3]) T_ok mixed Try.func70 rfl rfl rfl (by kernel_rfl) fun hl => ?_
  simp (maxSteps := 5000000) -dsimp only [↓gp, gq, reduceCtorEq, Nat.reduceEqDiff, Nat.reduceLT, Nat.reduceLeDiff, Nat.reduceAdd, Nat.reduceMul, Nat.reduceSub, Nat.reduceBEq, Int.reduceToNat, Int.reduceLE, Int.reduceLT, Int.reduceNeg, Nat.reduceMod, sid_ne1, sid_ne2, sid_inj, sid_mod, gT, TK.isInt, TK.agg, Array.toList]
  refine askK_of (c_spec_ExampleText k) ?_
  by_cases h : 1 ≤ k ∧ k ≤ 8
  · obtain ⟨rest, ht⟩ := exText_in h
    rw [decide_eq_true h]
    simp (maxSteps := 5000000) -dsimp only [↓gp, gq, reduceCtorEq, Nat.reduceEqDiff, Nat.reduceLT, Nat.reduceLeDiff, Nat.reduceAdd, Nat.reduceMul, Nat.reduceSub, Nat.reduceBEq, Int.reduceToNat, Int.reduceLE, Int.reduceLT, Int.reduceNeg, Nat.reduceMod, sid_ne1, sid_ne2, sid_inj, sid_mod, gT, TK.isInt, TK.agg, Array.toList]
    refine askK_of (c_spec_ParseComplex ht) ?_
    simp (maxSteps := 5000000) -dsimp only [↓gp, gq, reduceCtorEq, Nat.reduceEqDiff, Nat.reduceLT, Nat.reduceLeDiff, Nat.reduceAdd, Nat.reduceMul, Nat.reduceSub, Nat.reduceBEq, Int.reduceToNat, Int.reduceLE, Int.reduceLT, Int.reduceNeg, Nat.reduceMod, sid_ne1, sid_ne2, sid_inj, sid_mod, gT, TK.isInt, TK.agg, Array.toList]
  · rw [exText_out h, exPts_out h, exPs_out h, decide_eq_false h]
    simp (maxSteps := 5000000) -dsimp only [↓gp, gq, reduceCtorEq, Nat.reduceEqDiff, Nat.reduceLT, Nat.reduceLeDiff, Nat.reduceAdd, Nat.reduceMul, Nat.reduceSub, Nat.reduceBEq, Int.reduceToNat, Int.reduceLE, Int.reduceLT, Int.reduceNeg, Nat.reduceMod, sid_ne1, sid_ne2, sid_inj, sid_mod, gT, TK.isInt, TK.agg, Array.toList]
    refine askK_of c_spec_ParseComplex_0 ?_
    simp (maxSteps := 5000000) -dsimp only [↓gp, gq, reduceCtorEq, Nat.reduceEqDiff, Nat.reduceLT, Nat.reduceLeDiff, Nat.reduceAdd, Nat.reduceMul, Nat.reduceSub, Nat.reduceBEq, Int.reduceToNat, Int.reduceLE, Int.reduceLT, Int.reduceNeg, Nat.reduceMod, sid_ne1, sid_ne2, sid_inj, sid_mod, gT, TK.isInt, TK.agg, Array.toList, facs, List.map_nil]
    rfl
theorem c_laws_eqComplex (n m : Int) (xs ys : List Int) : AC Try.prog 11 [.ag [int n, ints xs], .ag [int m, ints ys]] (.im (bool (sameG n xs m ys))) := by
  refine AC.go (rs := [.tmp 4]) T_ok mixed Try.func11 rfl rfl rfl (by kernel_rfl) fun hl => ?_
  simp (maxSteps := 5000000) -dsimp only [↓gp, gq, reduceCtorEq, Nat.reduceEqDiff, Nat.reduceLT, Nat.reduceLeDiff, Nat.reduceAdd, Nat.reduceMul, Nat.reduceSub, Nat.reduceBEq, Int.reduceToNat, Int.reduceLE, Int.reduceLT, Int.reduceNeg, Nat.reduceMod, sid_ne1, sid_ne2, sid_inj, sid_mod, gT, TK.isInt, TK.agg, Array.toList]
  unfold sameG
  refine ⟨fun h => ?_, fun h => askK_of (c_laws_eqIntS xs ys) ?_⟩
  · simp at h
    simp [h]
  · simp (maxSteps := 5000000) -dsimp only [↓gp, gq, reduceCtorEq, Nat.reduceEqDiff, Nat.reduceLT, Nat.reduceLeDiff, Nat.reduceAdd, Nat.reduceMul, Nat.reduceSub, Nat.reduceBEq, Int.reduceToNat, Int.reduceLE, Int.reduceLT, Int.reduceNeg, Nat.reduceMod, sid_ne1, sid_ne2, sid_inj, sid_mod, gT, TK.isInt, TK.agg, Array.toList]
    simp at h
    exact ⟨fun h2 => by simpa [h] using h2, fun h2 => by simpa [h] using h2⟩
end Go.Proofs.Ytpnknaaehcljoaa

namespace Go.Proofs.Ytpnknaaehcljoaa
open Go.Abs
set_option linter.unusedSimpArgs false
set_option linter.unusedVariables false

theorem c_laws_szComplex (k : Int) (xs : List Int) (n : Int) (h0 : 0 ≤ n) (h1 : n ≤ 1048576) : AC Try.prog 7 [.ag [int k, ints xs], int n] (.im (int (szI n xs.length))) := by
  refine AC.go (rs := [.tmp 4]) T_ok mixed Try.func7 rfl rfl rfl (by kernel_rfl) fun hl => ?_
  simp (maxSteps := 5000000) -dsimp only [↓gp, gq, reduceCtorEq, Nat.reduceEqDiff, Nat.reduceLT, Nat.reduceLeDiff, Nat.reduceAdd, Nat.reduceMul, Nat.reduceSub, Nat.reduceBEq, Int.reduceToNat, Int.reduceLE, Int.reduceLT, Int.reduceNeg, Nat.reduceMod, sid_ne1, sid_ne2, sid_inj, sid_mod, gT, TK.isInt, TK.agg, Array.toList]
  refine askK_of (c_laws_szIntS xs n h0 h1) ?_
  simp (maxSteps := 5000000) -dsimp only [↓gp, gq, reduceCtorEq, Nat.reduceEqDiff, Nat.reduceLT, Nat.reduceLeDiff, Nat.reduceAdd, Nat.reduceMul, Nat.reduceSub, Nat.reduceBEq, Int.reduceToNat, Int.reduceLE, Int.reduceLT, Int.reduceNeg, Nat.reduceMod, sid_ne1, sid_ne2, sid_inj, sid_mod, gT, TK.isInt, TK.agg, Array.toList]
  have e : (if n - ↑xs.length < 0 then (-1 : Int) else n - ↑xs.length) = szI n xs.length := rfl
  simp only [e]
  refine ⟨fun h => ?_, fun _ => trivial⟩
  unfold szI at h ⊢
  split <;> omega
theorem c_laws_toComplex (n : Int) (xs : List Int) (hx : xs.length ≤ 1048576) : AC Try.prog 9 [.ag [int n, ints xs]] (.ag [.im (int n), .fr 3 1 (iL xs)]) := by
  refine AC.go (rs := [.cell 2 27]) T_ok mixed Try.func9 rfl rfl rfl (by kernel_rfl) fun hl => ?_
  simp (maxSteps := 5000000) -dsimp only [↓gp, gq, reduceCtorEq, Nat.reduceEqDiff, Nat.reduceLT, Nat.reduceLeDiff, Nat.reduceAdd, Nat.reduceMul, Nat.reduceSub, Nat.reduceBEq, Int.reduceToNat, Int.reduceLE, Int.reduceLT, Int.reduceNeg, Nat.reduceMod, sid_ne1, sid_ne2, sid_inj, sid_mod, gT, TK.isInt, TK.agg, Array.toList]
  refine askK_of (c_laws_toIntS xs hx) ?_
  simp (maxSteps := 5000000) -dsimp only [↓gp, gq, reduceCtorEq, Nat.reduceEqDiff, Nat.reduceLT, Nat.reduceLeDiff, Nat.reduceAdd, Nat.reduceMul, Nat.reduceSub, Nat.reduceBEq, Int.reduceToNat, Int.reduceLE, Int.reduceLT, Int.reduceNeg, Nat.reduceMod, sid_ne1, sid_ne2, sid_inj, sid_mod, gT, TK.isInt, TK.agg, Array.toList]
end Go.Proofs.Ytpnknaaehcljoaa

namespace Go.Proofs.Ytpnknaaehcljoaa
open Go.Abs
set_option linter.unusedSimpArgs false
set_option linter.unusedVariables false

end Go.Proofs.Ytpnknaaehcljoaa

namespace Go.Proofs.Ytpnknaaehcljoaa
open Go.Abs
set_option linter.unusedSimpArgs false
set_option linter.unusedVariables false

end Go.Proofs.Ytpnknaaehcljoaa

namespace Go.Proofs.Ytpnknaaehcljoaa
open Go.Abs
set_option linter.unusedSimpArgs false
set_option linter.unusedVariables false

end Go.Proofs.Ytpnknaaehcljoaa

namespace Go.Proofs.Ytpnknaaehcljoaa
open Go.Abs
set_option linter.unusedSimpArgs false
set_option linter.unusedVariables false

end Go.Proofs.Ytpnknaaehcljoaa

namespace Go.Proofs.Ytpnknaaehcljoaa
open Go.Abs
set_option linter.unusedSimpArgs false
set_option linter.unusedVariables false

end Go.Proofs.Ytpnknaaehcljoaa

namespace Go.Proofs.Ytpnknaaehcljoaa
open Go.Abs
set_option linter.unusedSimpArgs false
set_option linter.unusedVariables false

end Go.Proofs.Ytpnknaaehcljoaa

namespace Go.Proofs.Ytpnknaaehcljoaa
open Go.Abs
set_option linter.unusedSimpArgs false
set_option linter.unusedVariables false

theorem nd_bef {l : List Nat} (h : l.Pairwise befN) : l.Nodup := h.imp fun {a b} hab e => by subst e; exact befN_irrefl hab
theorem c_spec_l3CopyB (n : Int) (xs : List Int) (hx : xs.length ≤ 1048576) : AC Try.prog 172 [.ag [int n, ints xs]] (.ag [.im (int n), .fr 3 1 (iL xs)]) := by
  refine AC.go (rs := [.cell 2 27]) T_ok mixed Try.func172 rfl rfl rfl (by kernel_rfl) fun hl => ?_
  simp (maxSteps := 5000000) -dsimp only [↓gp, gq, reduceCtorEq, Nat.reduceEqDiff, Nat.reduceLT, Nat.reduceLeDiff, Nat.reduceAdd, Nat.reduceMul, Nat.reduceSub, Nat.reduceBEq, Int.reduceToNat, Int.reduceLE, Int.reduceLT, Int.reduceNeg, Nat.reduceMod, sid_ne1, sid_ne2, sid_inj, sid_mod, gT, TK.isInt, TK.agg, Array.toList]
  exact ⟨by kernel_rfl, by omega, by kernel_rfl⟩
end Go.Proofs.Ytpnknaaehcljoaa
