/- DERIVED by an AI agent. -/
import Derived.Test.YtpnknaaehcljoaaGreatQ2
import Derived.Test.YtpnknaaehcljoaaGreatP1
namespace Go.Proofs.YtpnknaaehcljoaaGreat
open Go.Abs
open Nat (reduceEqDiff reduceMod reduceAdd reduceLT reduceLeDiff reduceSub reduceMul)
set_option linter.unusedSimpArgs false
set_option linter.unusedVariables false
theorem c_impl_IsComplex (n : Int) (xs : List Int) : AC Tryz.prog 112 [.ag [int n, ints xs]] (.im (bool (isCx n xs))) := by
  refine AC.go (rs := [.tmp 2]) T_ok mixed Tryz.func112 rfl rfl rfl (by kernel_rfl) fun hl => ?_
  simp (maxSteps:=5000000) -dsimp only [↓gp, gq, reduceCtorEq, reduceEqDiff, reduceLT, reduceLeDiff, reduceAdd, reduceMul, reduceSub, Nat.reduceBEq, Int.reduceToNat, Int.reduceLE, Int.reduceLT, Int.reduceNeg, reduceMod, sid_ne1, sid_ne2, sid_inj, sid_mod, gT, TK.isInt, TK.agg, Array.toList]
  refine askK_of (c_impl_isAntichain n xs) ?_
  simp (maxSteps:=5000000) -dsimp only [↓gp, gq, reduceCtorEq, reduceEqDiff, reduceLT, reduceLeDiff, reduceAdd, reduceMul, reduceSub, Nat.reduceBEq, Int.reduceToNat, Int.reduceLE, Int.reduceLT, Int.reduceNeg, reduceMod, sid_ne1, sid_ne2, sid_inj, sid_mod, gT, TK.isInt, TK.agg, Array.toList]
theorem c_impl_SplitByte (t : ByteArray) (b : Nat) (ht : t.size ≤ 1000) : AC Tryz.prog 159 [str t, .v (.int .u8 b)] (.fr 9 1 (sL (splitB t b))) := by
  refine AC.go (rs := [.tmp 4]) T_ok mixed Tryz.func159 rfl rfl rfl (by kernel_rfl) fun hl => ?_
  simp (maxSteps:=5000000) -dsimp only [↓gp, gq, reduceCtorEq, reduceEqDiff, reduceLT, reduceLeDiff, reduceAdd, reduceMul, reduceSub, Nat.reduceBEq, Int.reduceToNat, Int.reduceLE, Int.reduceLT, Int.reduceNeg, reduceMod, sid_ne1, sid_ne2, sid_inj, sid_mod, gT, TK.isInt, TK.agg, Array.toList]
  refine loop_of (fun (za : Nat × Nat) s => match za with | (i, v) => s.sl 0 = str t ∧ s.sl 1 = .v (.int .u8 b) ∧ s.sl 5 = .own 5 v ∧ s.rw 5 = ⟨v, .sli 9 1 false (sL (spSt t b i).1)⟩ ∧ s.sl 6 = int (spSt t b i).2 ∧ s.sl 7 = int i ∧ (i ≤ t.size)) (fun (i, v) => t.size - i) ((0, 1)) (by refine ⟨?_, ?_, ?_, ?_, ?_, ?_, by simp⟩ <;> (first | (simp (maxSteps:=5000000) -dsimp only [gr, reduceEqDiff, reduceLT, reduceAdd, reduceMod, Nat.reduceBEq, sid_mod, sid_ne1, sid_ne2, sid_inj]; first | done | rfl | (simp; done)) | assumption | rfl)) ?_
  intro (i, v) sa ⟨h0a, h1a, h5a, r5a, h6a, h7a, hIa⟩
  have hle := spSt_le t b i
  simp (maxSteps:=5000000) -dsimp only [↓gp, gq, reduceCtorEq, reduceEqDiff, reduceLT, reduceLeDiff, reduceAdd, reduceMul, reduceSub, Nat.reduceBEq, Int.reduceToNat, Int.reduceLE, Int.reduceLT, Int.reduceNeg, reduceMod, sid_ne1, sid_ne2, sid_inj, sid_mod, gT, TK.isInt, TK.agg, Array.toList, h0a, h1a, h5a, r5a, h6a, h7a, sL_length]
  refine ⟨fun h => ⟨h, fun he => ⟨hle.1, by omega, by omega, ?_⟩, fun he => ?_⟩, fun h => ⟨by omega, by omega, ?_⟩⟩
  · have he : byt t i = b := by have := beq_iff_eq.1 he; unfold byt; omega
    exact again_of ((i + 1, v + 1)) (by refine ⟨?_, ?_, ?_, ?_, ?_, ?_, by omega⟩ <;> (first | (simp (maxSteps:=5000000) -dsimp only [gr, reduceEqDiff, reduceLT, reduceAdd, reduceMod, Nat.reduceBEq, sid_mod, sid_ne1, sid_ne2, sid_inj, h0a, h1a, h5a, r5a, h6a, h7a, wrap_nat h (by omega), spSt_yes he, sL_snoc]; first | done | rfl | (simp; done)) | assumption | rfl)) (by first | omega | (simp only; omega) | (dsimp only; omega) | (show _ < _; simp; omega))
  · have he : ¬ byt t i = b := by have := beq_eq_false_iff_ne.1 he; unfold byt; omega
    exact again_of ((i + 1, v)) (by refine ⟨?_, ?_, ?_, ?_, ?_, ?_, by omega⟩ <;> (first | (simp (maxSteps:=5000000) -dsimp only [gr, reduceEqDiff, reduceLT, reduceAdd, reduceMod, Nat.reduceBEq, sid_mod, sid_ne1, sid_ne2, sid_inj, h0a, h1a, h5a, r5a, h6a, h7a, wrap_nat h (by omega), spSt_no he]; first | done | rfl | (simp; done)) | assumption | rfl)) (by first | omega | (simp only; omega) | (dsimp only; omega) | (show _ < _; simp; omega))
  · obtain rfl : i = t.size := by omega
    rfl
theorem c_spec_SplitByte (t : ByteArray) (b : Nat) (ht : t.size ≤ 1000) : AC Tryz.prog 161 [str t, .v (.int .u8 b)] (.fr 9 1 (sL (splitB t b))) := by
  refine AC.go (rs := [.tmp 4]) T_ok mixed Tryz.func161 rfl rfl rfl (by kernel_rfl) fun hl => ?_
  simp (maxSteps:=5000000) -dsimp only [↓gp, gq, reduceCtorEq, reduceEqDiff, reduceLT, reduceLeDiff, reduceAdd, reduceMul, reduceSub, Nat.reduceBEq, Int.reduceToNat, Int.reduceLE, Int.reduceLT, Int.reduceNeg, reduceMod, sid_ne1, sid_ne2, sid_inj, sid_mod, gT, TK.isInt, TK.agg, Array.toList]
  refine loop_of (fun (za : Nat × Nat × List ByteArray × Nat) s => match za with | (i, v, out, st) => s.sl 0 = str t ∧ s.sl 1 = .v (.int .u8 b) ∧ s.sl 5 = .own 8 v ∧ s.rw 8 = ⟨v, .sli 9 1 false (sL out)⟩ ∧ s.sl 6 = int st ∧ s.sl 7 = int i ∧ (i ≤ t.size + 1 ∧ (i ≤ t.size → out = (spSt t b i).1 ∧ st = (spSt t b i).2) ∧ (t.size < i → out = splitB t b))) (fun (i, v, out, st) => t.size + 1 - i) ((0, 1, [], 0)) (by refine ⟨?_, ?_, ?_, ?_, ?_, ?_, ⟨by simp, by simp [spSt], by simp⟩⟩ <;> (first | (simp (maxSteps:=5000000) -dsimp only [gr, reduceEqDiff, reduceLT, reduceAdd, reduceMod, Nat.reduceBEq, sid_mod, sid_ne1, sid_ne2, sid_inj]; first | done | rfl | (simp; done)) | assumption | rfl)) ?_
  intro (i, v, out, st) sa ⟨h0a, h1a, h5a, r8a, h6a, h7a, hIa⟩
  obtain ⟨hi, h1, h2⟩ := hIa
  have hle := spSt_le t b i
  simp (maxSteps:=5000000) -dsimp only [↓gp, gq, reduceCtorEq, reduceEqDiff, reduceLT, reduceLeDiff, reduceAdd, reduceMul, reduceSub, Nat.reduceBEq, Int.reduceToNat, Int.reduceLE, Int.reduceLT, Int.reduceNeg, reduceMod, sid_ne1, sid_ne2, sid_inj, sid_mod, gT, TK.isInt, TK.agg, Array.toList, h0a, h1a, h5a, r8a, h6a, h7a, sL_length]
  refine ⟨fun h => ?_, fun h => by rw [h2 (by omega)]⟩
  obtain ⟨rfl, rfl⟩ := h1 h
  refine ⟨fun hne => ?_, fun he => ?_⟩
  · have hne := beq_eq_false_iff_ne.1 hne
    have hlt : i < t.size := by omega
    refine ⟨hlt, fun he => ⟨hle.1, by omega, by omega, ?_⟩, fun he => ?_⟩
    · have he : byt t i = b := by have := beq_iff_eq.1 he; unfold byt; omega
      exact again_of ((i + 1, v + 1, (spSt t b (i + 1)).1, (spSt t b (i + 1)).2)) (by refine ⟨?_, ?_, ?_, ?_, ?_, ?_, ⟨by omega, fun _ => ⟨by rw [spSt_yes he], by rw [spSt_yes he]⟩, by omega⟩⟩ <;> (first | (simp (maxSteps:=5000000) -dsimp only [gr, reduceEqDiff, reduceLT, reduceAdd, reduceMod, Nat.reduceBEq, sid_mod, sid_ne1, sid_ne2, sid_inj, h0a, h1a, h5a, r8a, h6a, h7a, wrap_nat hlt (by omega), spSt_yes he, sL_snoc]; first | done | rfl | (simp; done)) | assumption | rfl)) (by first | omega | (simp only; omega) | (dsimp only; omega) | (show _ < _; simp; omega))
    · have he : ¬ byt t i = b := by have := beq_eq_false_iff_ne.1 he; unfold byt; omega
      exact again_of ((i + 1, v, (spSt t b i).1, (spSt t b i).2)) (by refine ⟨?_, ?_, ?_, ?_, ?_, ?_, ⟨by omega, fun _ => ⟨by rw [spSt_no he], by rw [spSt_no he]⟩, by omega⟩⟩ <;> (first | (simp (maxSteps:=5000000) -dsimp only [gr, reduceEqDiff, reduceLT, reduceAdd, reduceMod, Nat.reduceBEq, sid_mod, sid_ne1, sid_ne2, sid_inj, h0a, h1a, h5a, r8a, h6a, h7a, wrap_nat hlt (by omega)]; first | done | rfl | (simp; done)) | assumption | rfl)) (by first | omega | (simp only; omega) | (dsimp only; omega) | (show _ < _; simp; omega))
  · have he := beq_iff_eq.1 he
    obtain rfl : i = t.size := by omega
    refine ⟨hle.1, by omega, by omega, ?_⟩
    have hw : IntKind.i64.wrap ((t.size : Int) + 1) = ((t.size + 1 : Nat) : Int) := wrap_nat (n := t.size + 1) (by omega) (by omega)
    exact again_of ((t.size + 1, v + 1, splitB t b, t.size + 1)) (by refine ⟨?_, ?_, ?_, ?_, ?_, ?_, ⟨by omega, by omega, fun _ => rfl⟩⟩ <;> (first | (simp (maxSteps:=5000000) -dsimp only [gr, reduceEqDiff, reduceLT, reduceAdd, reduceMod, Nat.reduceBEq, sid_mod, sid_ne1, sid_ne2, sid_inj, h0a, h1a, h5a, r8a, h6a, h7a, hw, sL_snoc, splitB]; first | done | rfl | (simp; done)) | assumption | rfl)) (by first | omega | (simp only; omega) | (dsimp only; omega) | (show _ < _; simp; omega))
theorem c_impl_ParseSet (t : ByteArray) (h : OkSet t) : AC Tryz.prog 160 [str t] (.tup [.im (int (setV t t.size : Nat)), .im (bool true)]) := by
  refine AC.go (rs := [.tmp 2, .tmp 3]) T_ok mixed Tryz.func160 rfl rfl rfl (by kernel_rfl) fun hl => ?_
  have hlo := h.lo
  have hhi := h.hi
  have e0 : ((t.size : Int) == 0) = false := beq_eq_false_iff_ne.2 (by omega)
  have e6 : (6 < (t.size : Int)) = False := eq_false (by omega)
  simp (maxSteps:=5000000) -dsimp only [↓gp, gq, reduceCtorEq, reduceEqDiff, reduceLT, reduceLeDiff, reduceAdd, reduceMul, reduceSub, Nat.reduceBEq, Int.reduceToNat, Int.reduceLE, Int.reduceLT, Int.reduceNeg, reduceMod, sid_ne1, sid_ne2, sid_inj, sid_mod, gT, TK.isInt, TK.agg, Array.toList, h.dash, e0, e6]
  refine loop_of (fun (i : Nat) s => s.sl 0 = str t ∧ s.sl 4 = int (setV t i : Nat) ∧ s.sl 5 = int i ∧ (i ≤ t.size)) (fun i => t.size - i) (0) (by refine ⟨?_, ?_, ?_, by simp⟩ <;> (first | (simp (maxSteps:=5000000) -dsimp only [gr, reduceEqDiff, reduceLT, reduceAdd, reduceMod, Nat.reduceBEq, sid_mod, sid_ne1, sid_ne2, sid_inj, setV_zero]; first | done | rfl | (simp; done)) | assumption | rfl)) ?_
  intro i sa ⟨h0a, h4a, h5a, hIa⟩
  simp (maxSteps:=5000000) -dsimp only [↓gp, gq, reduceCtorEq, reduceEqDiff, reduceLT, reduceLeDiff, reduceAdd, reduceMul, reduceSub, Nat.reduceBEq, Int.reduceToNat, Int.reduceLE, Int.reduceLT, Int.reduceNeg, reduceMod, sid_ne1, sid_ne2, sid_inj, sid_mod, gT, TK.isInt, TK.agg, Array.toList, h0a, h4a, h5a]
  have hb : byt t i = (t.data.toList.getD i 0).toNat := rfl
  rw [← hb]
  refine ⟨fun hi => ?_, fun hi => by obtain rfl : i = t.size := by omega
                                     rfl⟩
  have hl1 := h.letter i hi
  have hr := h.rise i hi
  have hv := setV_64 h i (by omega)
  have h2k : 2 ^ (byt t i - 97) < 64 := by have : 2 ^ (byt t i - 97) < 2 ^ 6 := Nat.pow_lt_pow_right (by omega) (by omega); omega
  have hw8 : IntKind.u8.wrap ((byt t i : Int) - 97) = ((byt t i - 97 : Nat) : Int) := by
    simp [IntKind.wrap, IntKind.bits, IntKind.signed]
    omega
  have hw64 : IntKind.u64.wrap ((byt t i - 97 : Nat) : Int) = ((byt t i - 97 : Nat) : Int) := uwrap_id (by omega)
  have hor : ior .i64 ((setV t i : Nat) : Int) (ishl .i64 1 ((byt t i - 97 : Nat) : Int)) = ((setV t (i + 1) : Nat) : Int) := by
    rw [ishl_small (by omega), ior_nat (by omega) (by omega), setV_succ]
  refine ⟨hi, fun _ => ⟨hi, fun hc => by omega, fun _ => ⟨by kernel_rfl, fun h0 => ?_, fun h0 => ⟨hi, by rw [hw8, hw64]; omega, ?_⟩⟩⟩, fun hc => by omega⟩
  · have h0 : 0 < i := by omega
    have hw1 : IntKind.i64.wrap ((i : Int) - 1) = ((i - 1 : Nat) : Int) := by rw [wrap_id (by omega) (by omega)]; omega
    rw [hw1]
    refine ⟨hi, by omega, by omega, fun hc => ?_, fun hc => ⟨hi, by rw [hw8, hw64]; omega, ?_⟩⟩
    · have := hr h0
      unfold byt at this hc
      rw [Int.toNat_natCast] at hc
      omega
    · exact again_of (i + 1) (by refine ⟨?_, ?_, ?_, by omega⟩ <;> (first | (simp (maxSteps:=5000000) -dsimp only [gr, reduceEqDiff, reduceLT, reduceAdd, reduceMod, Nat.reduceBEq, sid_mod, sid_ne1, sid_ne2, sid_inj, h0a, h4a, h5a, ← hb, hw8, hw64, hor, wrap_nat hi (by omega)]; first | done | rfl | (simp; done)) | assumption | rfl)) (by first | omega | (simp only; omega) | (dsimp only; omega) | (show _ < _; simp; omega))
  · exact again_of (i + 1) (by refine ⟨?_, ?_, ?_, by omega⟩ <;> (first | (simp (maxSteps:=5000000) -dsimp only [gr, reduceEqDiff, reduceLT, reduceAdd, reduceMod, Nat.reduceBEq, sid_mod, sid_ne1, sid_ne2, sid_inj, h0a, h4a, h5a, ← hb, hw8, hw64, hor, wrap_nat hi (by omega)]; first | done | rfl | (simp; done)) | assumption | rfl)) (by first | omega | (simp only; omega) | (dsimp only; omega) | (show _ < _; simp; omega))
theorem c_spec_ParseSet (t : ByteArray) (h : OkSet t) : AC Tryz.prog 163 [str t] (.tup [.im (int (setV t t.size : Nat)), .im (bool true)]) := by
  refine AC.go (rs := [.tmp 2, .tmp 3]) T_ok mixed Tryz.func163 rfl rfl rfl (by kernel_rfl) fun hl => ?_
  simp (maxSteps:=5000000) -dsimp only [↓gp, gq, reduceCtorEq, reduceEqDiff, reduceLT, reduceLeDiff, reduceAdd, reduceMul, reduceSub, Nat.reduceBEq, Int.reduceToNat, Int.reduceLE, Int.reduceLT, Int.reduceNeg, reduceMod, sid_ne1, sid_ne2, sid_inj, sid_mod, gT, TK.isInt, TK.agg, Array.toList]
  refine loop_of (fun (i : Nat) s => s.sl 0 = str t ∧ s.sl 4 = int (setV t i : Nat) ∧ s.sl 5 = int i ∧ (i ≤ t.size)) (fun i => t.size - i) (0) (by refine ⟨?_, ?_, ?_, by simp⟩ <;> (first | (simp (maxSteps:=5000000) -dsimp only [gr, reduceEqDiff, reduceLT, reduceAdd, reduceMod, Nat.reduceBEq, sid_mod, sid_ne1, sid_ne2, sid_inj, setV_zero]; first | done | rfl | (simp; done)) | assumption | rfl)) ?_
  intro i sa ⟨h0a, h4a, h5a, hIa⟩
  rcases Nat.lt_or_ge i t.size with hi | hi
  · have hlt : ((i : Int) < (t.size : Int)) = True := eq_true (by omega)
    have hb : byt t i = (t.data.toList.getD i 0).toNat := rfl
    have hl1 := h.letter i hi
    have hhi := h.hi
    have hv := setV_64 h i (by omega)
    have hvl := setV_lt h i hi
    have hw1 : IntKind.i64.wrap (IntKind.i64.wrap (((t.data.toList.getD i 0).toNat : Nat) : Int) - 97) = ((byt t i - 97 : Nat) : Int) := by
      have e1 : IntKind.i64.wrap ((byt t i : Nat) : Int) = ((byt t i : Nat) : Int) := wrap_id (by omega) (by omega)
      rw [← hb, e1, wrap_id (by omega) (by omega)]; omega
    simp (maxSteps:=5000000) -dsimp only [↓gp, gq, reduceCtorEq, reduceEqDiff, reduceLT, reduceLeDiff, reduceAdd, reduceMul, reduceSub, Nat.reduceBEq, Int.reduceToNat, Int.reduceLE, Int.reduceLT, Int.reduceNeg, reduceMod, sid_ne1, sid_ne2, sid_inj, sid_mod, gT, TK.isInt, TK.agg, Array.toList, h0a, h4a, h5a, h.dash, h.empty, hlt, hw1]
    refine ⟨hi, askK_of (c_spec_l1In _ _ _) ?_⟩
    have hd : (decide ((0 : Int) ≤ ((byt t i - 97 : Nat) : Int)) && decide (((byt t i - 97 : Nat) : Int) ≤ 5)) = true := by simp; omega
    have hw64 : IntKind.u64.wrap ((byt t i - 97 : Nat) : Int) = ((byt t i - 97 : Nat) : Int) := uwrap_id (by omega)
    have hsh : ishr .i64 ((setV t i : Nat) : Int) ((byt t i - 97 : Nat) : Int) = 0 := by
      rw [ishr_i (by omega), Nat.shiftRight_eq_div_pow, Nat.div_eq_of_lt hvl]; rfl
    have h2k : 2 ^ (byt t i - 97) < 64 := by have : 2 ^ (byt t i - 97) < 2 ^ 6 := Nat.pow_lt_pow_right (by omega) (by omega); omega
    have hadd : IntKind.i64.wrap (((setV t i : Nat) : Int) + ishl .i64 1 ((byt t i - 97 : Nat) : Int)) = ((setV t (i + 1) : Nat) : Int) := by
      rw [ishl_small (by omega), wrap_id (by omega) (by omega), ← setV_add h hi]; rfl
    simp (maxSteps:=5000000) -dsimp only [↓gp, gq, reduceCtorEq, reduceEqDiff, reduceLT, reduceLeDiff, reduceAdd, reduceMul, reduceSub, Nat.reduceBEq, Int.reduceToNat, Int.reduceLE, Int.reduceLT, Int.reduceNeg, reduceMod, sid_ne1, sid_ne2, sid_inj, sid_mod, gT, TK.isInt, TK.agg, Array.toList, h0a, h4a, h5a, hlt, hw1, hd, hw64, hsh, hadd]
    have hd2 : (!(decide True && decide (((byt t i - 97 : Nat) : Int) ≤ 5))) = false := by simp; omega
    refine ⟨fun _ => ⟨fun hc => (by simp at hc), fun _ => again_of (i + 1) (by refine ⟨?_, ?_, ?_, by omega⟩ <;> (first | (simp (maxSteps:=5000000) -dsimp only [gr, reduceEqDiff, reduceLT, reduceAdd, reduceMod, Nat.reduceBEq, sid_mod, sid_ne1, sid_ne2, sid_inj, h0a, h4a, h5a, hw1, hw64, hadd, wrap_nat hi (by omega)]; first | done | rfl | (simp; done)) | assumption | rfl)) (by first | omega | (simp only; omega) | (dsimp only; omega) | (show _ < _; simp; omega))⟩, fun hc => by rw [hd2] at hc; cases hc⟩
  · obtain rfl : i = t.size := by omega
    have hlt : ((t.size : Int) < (t.size : Int)) = False := eq_false (by omega)
    simp (maxSteps:=5000000) -dsimp only [↓gp, gq, reduceCtorEq, reduceEqDiff, reduceLT, reduceLeDiff, reduceAdd, reduceMul, reduceSub, Nat.reduceBEq, Int.reduceToNat, Int.reduceLE, Int.reduceLT, Int.reduceNeg, reduceMod, sid_ne1, sid_ne2, sid_inj, sid_mod, gT, TK.isInt, TK.agg, Array.toList, h0a, h4a, h5a, h.dash, h.empty, hlt]
def facs (ps : List ByteArray) : List Int := ps.map fun p => ((setV p p.size : Nat) : Int)
theorem facs_take {ps : List ByteArray} {k : Nat} (h : k < ps.length) : facs (ps.take (k + 1)) = facs (ps.take k) ++ [((setV (ps.getD k ⟨#[]⟩) (ps.getD k ⟨#[]⟩).size : Nat) : Int)] := by
  unfold facs
  rw [take_snoc ⟨#[]⟩ h, List.map_append]; rfl
def chr (n : Nat) : ByteArray := ⟨#[UInt8.ofNat (48 + n)]⟩
structure OkText (t : ByteArray) (n : Nat) (rest : ByteArray) (ps : List ByteArray) : Prop where
  size : 2 ≤ t.size ∧ t.size ≤ 1000
  pts : 1 ≤ n ∧ n ≤ 6
  b0 : byt t 0 = 48 + n
  b1 : byt t 1 = 58
  tail : t.extract 2 t.size = rest
  rsize : rest.size ≤ 1000
  full : (rest.toList == (⟨#[]⟩ : ByteArray).toList) = false
  parts : splitB rest 44 = ps
  plen : ps.length ≤ 1000
  pne : 0 < ps.length
  sets : ∀ p ∈ ps, OkSet p
  head : splitB t 58 = [chr n, rest]
  cx : cxP n (facs ps)
theorem adopt_tvvv {s : St} (d : Nat) (x y z : Value) : adoptSt s d (.tup [.im (.v x), .im (.v y), .im (.v z)]) = s.put (some d) (.tup [.v x, .v y, .v z]) := by
  unfold adoptSt
  simp [leaves_tup, leaves, addRows, adopt2, adopt1, adoptL, adopt0, leafId, St.row, setIf]
theorem c_impl_parseHead {t rest : ByteArray} {n : Nat} {ps : List ByteArray} (h : OkText t n rest ps) : AC Tryz.prog 158 [str t] (.tup [.im (int n), .im (str rest), .im (bool true)]) := by
  refine AC.go (rs := [.tmp 2, .tmp 3, .tmp 4]) T_ok mixed Tryz.func158 rfl rfl rfl (by kernel_rfl) fun hl => ?_
  have h1 := h.size
  have h2 := h.pts
  have h3 : (t.data.toList.getD 0 0).toNat = 48 + n := h.b0
  have h4 : (t.data.toList.getD 1 0).toNat = 58 := h.b1
  simp (maxSteps:=5000000) -dsimp only [↓gp, gq, reduceCtorEq, reduceEqDiff, reduceLT, reduceLeDiff, reduceAdd, reduceMul, reduceSub, Nat.reduceBEq, Int.reduceToNat, Int.reduceLE, Int.reduceLT, Int.reduceNeg, reduceMod, sid_ne1, sid_ne2, sid_inj, sid_mod, gT, TK.isInt, TK.agg, Array.toList, h3, h4]
  have hw8 : IntKind.u8.wrap (((48 + n : Nat) : Int) - 48) = (n : Int) := by
    simp [IntKind.wrap, IntKind.bits, IntKind.signed]
    omega
  refine ⟨fun _ => ⟨by omega, fun _ => ⟨by omega, fun _ => ⟨by omega, fun hc => (by simp at hc), fun _ => ⟨by kernel_rfl, by omega, by omega, ?_, h.tail.symm⟩⟩, fun hc => (by omega)⟩, fun hc => (by omega)⟩, fun hc => (by omega)⟩
  rw [hw8, wrap_id (by omega) (by omega)]
theorem c_impl_ParseComplex {t rest : ByteArray} {n : Nat} {ps : List ByteArray} (h : OkText t n rest ps) : AC Tryz.prog 83 [str t] (.tup [.ag [.im (int n), .fr 3 1 (iL (facs ps))], .im (bool true)]) := by
  refine AC.go (rs := [.cell 2 27, .tmp 3]) T_ok mixed Tryz.func83 rfl rfl rfl (by kernel_rfl) fun hl => ?_
  simp (maxSteps:=5000000) -dsimp only [↓gp, gq, reduceCtorEq, reduceEqDiff, reduceLT, reduceLeDiff, reduceAdd, reduceMul, reduceSub, Nat.reduceBEq, Int.reduceToNat, Int.reduceLE, Int.reduceLT, Int.reduceNeg, reduceMod, sid_ne1, sid_ne2, sid_inj, sid_mod, gT, TK.isInt, TK.agg, Array.toList]
  refine askK_of (c_impl_parseHead h) ?_
  simp (maxSteps:=5000000) -dsimp only [↓gp, gq, reduceCtorEq, reduceEqDiff, reduceLT, reduceLeDiff, reduceAdd, reduceMul, reduceSub, Nat.reduceBEq, Int.reduceToNat, Int.reduceLE, Int.reduceLT, Int.reduceNeg, reduceMod, sid_ne1, sid_ne2, sid_inj, sid_mod, gT, TK.isInt, TK.agg, Array.toList, adopt_tvvv, h.full]
  refine askK_of (c_impl_SplitByte rest 44 h.rsize) ?_
  rw [h.parts]
  simp (maxSteps:=5000000) -dsimp only [↓gp, gq, reduceCtorEq, reduceEqDiff, reduceLT, reduceLeDiff, reduceAdd, reduceMul, reduceSub, Nat.reduceBEq, Int.reduceToNat, Int.reduceLE, Int.reduceLT, Int.reduceNeg, reduceMod, sid_ne1, sid_ne2, sid_inj, sid_mod, gT, TK.isInt, TK.agg, Array.toList, sL_length]
  refine loop_of (fun (za : Nat × Nat × PV × RK × Nat × Nat) s => match za with | (k, u, fc, kd, v, y) => s.sl 2 = .ref 2 1 0 ∧ s.rw 2 = ⟨1, .box 27 [int 0, .v (.slice none 0 0)]⟩ ∧ s.sl 7 = .ref 7 y 0 ∧ s.rw 7 = ⟨y, .box 27 [int n, fc]⟩ ∧ s.rw 44 = ⟨u, kd⟩ ∧ s.sl 26 = .own 26 v ∧ s.rw 26 = ⟨v, .sli 9 1 false (sL ps)⟩ ∧ s.sl 27 = int ps.length ∧ s.sl 28 = int k ∧ (k ≤ ps.length ∧ ((k = 0 ∧ fc = .v (.slice none 0 0)) ∨ (0 < k ∧ fc = .own 44 u ∧ kd = .sli 3 1 false (iL (facs (ps.take k))))))) (fun (k, u, fc, kd, v, y) => ps.length - k) ((0, 0, .v (.slice none 0 0), .dead, 1, 1)) (by refine ⟨?_, ?_, ?_, ?_, ?_, ?_, ?_, ?_, ?_, by simp⟩ <;> (first | (simp (maxSteps:=5000000) -dsimp only [gr, reduceEqDiff, reduceLT, reduceAdd, reduceMod, Nat.reduceBEq, sid_mod, sid_ne1, sid_ne2, sid_inj, sL_length]; first | done | rfl | (simp; done)) | assumption | rfl)) ?_
  intro (k, u, fc, kd, v, y) sa ⟨h2a, r2a, h7a, r7a, r44a, h26a, r26a, h27a, h28a, hIa⟩
  obtain ⟨hk, hfc⟩ := hIa
  have hfl : (facs (ps.take k)).length = k := by unfold facs; simp; omega
  rcases hfc with ⟨rfl, rfl⟩ | ⟨h0, rfl, rfl⟩
  · simp (maxSteps:=5000000) -dsimp only [↓gp, gq, reduceCtorEq, reduceEqDiff, reduceLT, reduceLeDiff, reduceAdd, reduceMul, reduceSub, Nat.reduceBEq, Int.reduceToNat, Int.reduceLE, Int.reduceLT, Int.reduceNeg, reduceMod, sid_ne1, sid_ne2, sid_inj, sid_mod, gT, TK.isInt, TK.agg, Array.toList, h2a, r2a, h7a, r7a, r44a, h26a, r26a, h27a, h28a, sL_length]
    refine ⟨fun hlt => ⟨hlt, hlt, askK_of (c_impl_ParseSet _ (h.sets _ (getD_mem ⟨#[]⟩ hlt))) ?_⟩, fun hge => ?_⟩
    · simp (maxSteps:=5000000) -dsimp only [↓gp, gq, reduceCtorEq, reduceEqDiff, reduceLT, reduceLeDiff, reduceAdd, reduceMul, reduceSub, Nat.reduceBEq, Int.reduceToNat, Int.reduceLE, Int.reduceLT, Int.reduceNeg, reduceMod, sid_ne1, sid_ne2, sid_inj, sid_mod, gT, TK.isInt, TK.agg, Array.toList, h2a, r2a, h7a, r7a, r44a, h26a, r26a, h27a, h28a, sL_length]
      have hf1 : facs (ps.take 1) = [((setV (ps.getD 0 ⟨#[]⟩) (ps.getD 0 ⟨#[]⟩).size : Nat) : Int)] := facs_take hlt
      exact again_of ((1, u + 1, .own 44 (u + 1), .sli 3 1 false (iL (facs (ps.take 1))), v, y)) (by refine ⟨?_, ?_, ?_, ?_, ?_, ?_, ?_, ?_, ?_, ⟨by omega, Or.inr ⟨by omega, rfl, rfl⟩⟩⟩ <;> (first | (simp (maxSteps:=5000000) -dsimp only [gr, reduceEqDiff, reduceLT, reduceAdd, reduceMod, Nat.reduceBEq, sid_mod, sid_ne1, sid_ne2, sid_inj, h2a, r2a, h7a, r7a, r44a, h26a, r26a, h27a, h28a, hf1]; first | done | rfl | (simp; done)) | assumption | rfl)) (by first | omega | (simp only; omega) | (dsimp only; omega) | (show _ < _; simp; omega))
    · exact absurd h.pne hge
  · simp (maxSteps:=5000000) -dsimp only [↓gp, gq, reduceCtorEq, reduceEqDiff, reduceLT, reduceLeDiff, reduceAdd, reduceMul, reduceSub, Nat.reduceBEq, Int.reduceToNat, Int.reduceLE, Int.reduceLT, Int.reduceNeg, reduceMod, sid_ne1, sid_ne2, sid_inj, sid_mod, gT, TK.isInt, TK.agg, Array.toList, h2a, r2a, h7a, r7a, r44a, h26a, r26a, h27a, h28a, sL_length, iL_length, hfl]
    refine ⟨fun hlt => ⟨hlt, hlt, askK_of (c_impl_ParseSet _ (h.sets _ (getD_mem ⟨#[]⟩ hlt))) ?_⟩, fun hge => ?_⟩
    · simp (maxSteps:=5000000) -dsimp only [↓gp, gq, reduceCtorEq, reduceEqDiff, reduceLT, reduceLeDiff, reduceAdd, reduceMul, reduceSub, Nat.reduceBEq, Int.reduceToNat, Int.reduceLE, Int.reduceLT, Int.reduceNeg, reduceMod, sid_ne1, sid_ne2, sid_inj, sid_mod, gT, TK.isInt, TK.agg, Array.toList, h2a, r2a, h7a, r7a, r44a, h26a, r26a, h27a, h28a, sL_length, hfl]
      have hpl := h.plen
      refine ⟨by omega, ?_⟩
      exact again_of ((k + 1, u + 1, .own 44 (u + 1), .sli 3 1 false (iL (facs (ps.take (k + 1)))), v, y)) (by refine ⟨?_, ?_, ?_, ?_, ?_, ?_, ?_, ?_, ?_, ⟨by omega, Or.inr ⟨by omega, rfl, rfl⟩⟩⟩ <;> (first | (simp (maxSteps:=5000000) -dsimp only [gr, reduceEqDiff, reduceLT, reduceAdd, reduceMod, Nat.reduceBEq, sid_mod, sid_ne1, sid_ne2, sid_inj, h2a, r2a, h7a, r7a, r44a, h26a, r26a, h27a, h28a, facs_take hlt, wrap_nat hlt (by omega)]; first | done | rfl | (simp; done)) | assumption | rfl)) (by first | omega | (simp only; omega) | (dsimp only; omega) | (show _ < _; simp; omega))
    · obtain rfl : k = ps.length := by omega
      rw [List.take_length]
      have hcx := isCx_yes h.cx
      refine askK_of (c_impl_IsComplex n (facs ps)) ?_
      simp (maxSteps:=5000000) -dsimp only [↓gp, gq, reduceCtorEq, reduceEqDiff, reduceLT, reduceLeDiff, reduceAdd, reduceMul, reduceSub, Nat.reduceBEq, Int.reduceToNat, Int.reduceLE, Int.reduceLT, Int.reduceNeg, reduceMod, sid_ne1, sid_ne2, sid_inj, sid_mod, gT, TK.isInt, TK.agg, Array.toList, h2a, r2a, h7a, r7a, r44a, h26a, r26a, h27a, h28a, hcx, hfl, List.take_length]
def cvRow (r : Row) (ver : Nat) (Kp : PV → Prop) : Prop := r.ver = ver ∧ match r.kind with
  | .nil => ∃ bs : List Int, [] = bs.map (fun n => PV.v (.int .u8 n)) ∧ Kp (.v (.string (bs.foldl (fun r n => r.push (UInt8.ofNat n.toNat)) ByteArray.empty)))
  | .sli _ sz _ c => sz = 1 ∧ ∃ bs : List Int, c = bs.map (fun n => PV.v (.int .u8 n)) ∧ Kp (.v (.string (bs.foldl (fun r n => r.push (UInt8.ofNat n.toNat)) ByteArray.empty)))
  | _ => False
theorem conv_own (rw : Nat → Row) (j ver : Nat) {Kp : PV → Prop} : convK T rw 22 9 (.own j ver) Kp = cvRow (rw j) ver Kp := by
  have ha : (T 22).k = .sli 5 := T22k
  have hb : (T 9).k = .str := T9k
  have he : (T 5).k = .int .u8 := T5k
  have s1 : (T 22).size = 1 := T22s
  have s2 : (T 9).size = 1 := T9s
  have s3 : (T 5).size = 1 := T5s
  unfold convK cvRow
  simp only [ha, hb, he, s1, s2, s3, slK]
  cases h : (rw j).kind <;> simp
theorem cvRow_one (ver e : Nat) (fz : Bool) (n : Int) {Kp : PV → Prop} : cvRow ⟨ver, .sli e 1 fz [.v (.int .u8 n)]⟩ ver Kp = Kp (.v (.string ([n].foldl (fun r n => r.push (UInt8.ofNat n.toNat)) ByteArray.empty))) := by
  unfold cvRow
  simp only [true_and]
  refine propext ⟨fun ⟨bs, hb, h⟩ => ?_, fun h => ⟨[n], rfl, h⟩⟩
  match bs, hb with
  | [m], hb => simp at hb; subst hb; exact h
theorem lit_u8 (n : Int) : lit [.v (.int .u8 n)] = [.v (.int .u8 n)] := rfl
theorem chr_size (n : Nat) : (chr n).size = 1 := rfl
theorem chr_at {n : Nat} (h : n ≤ 9) : ((chr n).data.toList.getD 0 0).toNat = 48 + n := by
  show (UInt8.ofNat (48 + n)).toNat = 48 + n
  simp
  omega
theorem chr_of {n : Nat} (h : n ≤ 9) : ([(48 + n : Int)].foldl (fun r n => r.push (UInt8.ofNat n.toNat)) ByteArray.empty) ++ ⟨#[]⟩ = chr n := by
  have : ∀ m : Fin 10, ([(48 + (m.val : Nat) : Int)].foldl (fun r n => r.push (UInt8.ofNat n.toNat)) ByteArray.empty) ++ ⟨#[]⟩ = chr m.val := by decide +kernel
  exact this ⟨n, by omega⟩
theorem c_spec_FormatInt {n : Nat} (h1 : 1 ≤ n) (h9 : n ≤ 9) : AC Tryz.prog 222 [int n] (.im (str (chr n))) := by
  refine AC.go (rs := [.tmp 2]) T_ok mixed Tryz.func222 rfl rfl rfl (by kernel_rfl) fun hl => ?_
  have e0 : ((n : Int) == 0) = false := beq_eq_false_iff_ne.2 (by omega)
  simp (maxSteps:=5000000) -dsimp only [↓gp, gq, reduceCtorEq, reduceEqDiff, reduceLT, reduceLeDiff, reduceAdd, reduceMul, reduceSub, Nat.reduceBEq, Int.reduceToNat, Int.reduceLE, Int.reduceLT, Int.reduceNeg, reduceMod, sid_ne1, sid_ne2, sid_inj, sid_mod, gT, TK.isInt, TK.agg, Array.toList, e0]
  refine loop_of (fun (za : Nat × ByteArray) s => match za with | (m, o) => s.sl 0 = int m ∧ s.sl 3 = bool false ∧ s.sl 4 = str o ∧ ((m = n ∧ o = ⟨#[]⟩) ∨ (m = 0 ∧ o = chr n))) (fun (m, o) => m) ((n, ⟨#[]⟩)) (by refine ⟨?_, ?_, ?_, Or.inl ⟨rfl, rfl⟩⟩ <;> (first | (simp (maxSteps:=5000000) -dsimp only [gr, reduceEqDiff, reduceLT, reduceAdd, reduceMod, Nat.reduceBEq, sid_mod, sid_ne1, sid_ne2, sid_inj, decide_eq_false (show ¬ ((n : Int) < 0) by omega)]; first | done | rfl | (simp; done)) | assumption | rfl)) ?_
  intro (m, o) sa ⟨h0a, h3a, h4a, hIa⟩
  rcases hIa with ⟨rfl, rfl⟩ | ⟨rfl, rfl⟩
  · have ht : ((m : Int)).tmod 10 = (m : Int) := Int.tmod_eq_of_lt (by omega) (by omega)
    have hw : IntKind.i64.wrap (48 + (m : Int)) = 48 + (m : Int) := wrap_id (by omega) (by omega)
    have hw8 : IntKind.u8.wrap (48 + (m : Int)) = 48 + (m : Int) := by
      simp [IntKind.wrap, IntKind.bits, IntKind.signed]
      omega
    have hq : ((m : Int)).tdiv 10 = 0 := Int.tdiv_eq_zero_of_lt (by omega) (by omega)
    have hc := chr_of h9
    simp (maxSteps:=5000000) -dsimp only [↓gp, gq, reduceCtorEq, reduceEqDiff, reduceLT, reduceLeDiff, reduceAdd, reduceMul, reduceSub, Nat.reduceBEq, Int.reduceToNat, Int.reduceLE, Int.reduceLT, Int.reduceNeg, reduceMod, sid_ne1, sid_ne2, sid_inj, sid_mod, gT, TK.isInt, TK.agg, Array.toList, h0a, h3a, h4a, conv_own, cvRow_one, lit_u8, ht, hw, hw8, hq, hc]
    refine ⟨fun _ => ⟨by decide, fun h => absurd h (by omega), fun _ => ⟨?_, by decide, again_of ((0, chr m)) (by refine ⟨?_, ?_, ?_, Or.inr ⟨rfl, rfl⟩⟩ <;> (first | (simp (maxSteps:=5000000) -dsimp only [gr, reduceEqDiff, reduceLT, reduceAdd, reduceMod, Nat.reduceBEq, sid_mod, sid_ne1, sid_ne2, sid_inj, h0a, h3a, h4a, ht, hw, hw8, hq, hc]; first | done | rfl | (simp; done)) | assumption | rfl)) (by first | omega | (simp only; omega) | (dsimp only; omega) | (show _ < _; simp; omega))⟩⟩, fun h => ?_⟩
    · show 1 + 0 ≤ 9223372036854775807
      omega
    · simp at h
      omega
  · simp (maxSteps:=5000000) -dsimp only [↓gp, gq, reduceCtorEq, reduceEqDiff, reduceLT, reduceLeDiff, reduceAdd, reduceMul, reduceSub, Nat.reduceBEq, Int.reduceToNat, Int.reduceLE, Int.reduceLT, Int.reduceNeg, reduceMod, sid_ne1, sid_ne2, sid_inj, sid_mod, gT, TK.isInt, TK.agg, Array.toList, h0a, h3a, h4a, show (((0 : Nat) : Int) != 0) = false from rfl]
theorem c_spec_l1Read {n : Nat} (h1 : 1 ≤ n) (h9 : n ≤ 9) : AC Tryz.prog 200 [str (chr n), int 12] (.tup [.im (int n), .im (bool true)]) := by
  refine AC.go (rs := [.tmp 4, .tmp 5]) T_ok mixed Tryz.func200 rfl rfl rfl (by kernel_rfl) fun hl => ?_
  have hc := chr_at h9
  have e45 : (((48 + n : Nat) : Int) == 45) = false := beq_eq_false_iff_ne.2 (by omega)
  have hz1 : ((1 : Nat) : Int) = 1 := rfl
  simp (maxSteps:=5000000) -dsimp only [↓gp, gq, reduceCtorEq, reduceEqDiff, reduceLT, reduceLeDiff, reduceAdd, reduceMul, reduceSub, Nat.reduceBEq, Int.reduceToNat, Int.reduceLE, Int.reduceLT, Int.reduceNeg, reduceMod, sid_ne1, sid_ne2, sid_inj, sid_mod, gT, TK.isInt, TK.agg, Array.toList, chr_size, hc, e45, hz1]
  refine loop_of (fun (i : Nat) s => s.sl 0 = str (chr n) ∧ s.sl 6 = bool false ∧ s.sl 7 = str (chr n) ∧ s.sl 8 = int (if i = 0 then 0 else n : Nat) ∧ s.sl 9 = int i ∧ (i ≤ 1)) (fun i => 1 - i) (0) (by refine ⟨?_, ?_, ?_, ?_, ?_, by simp⟩ <;> (first | (simp (maxSteps:=5000000) -dsimp only [gr, reduceEqDiff, reduceLT, reduceAdd, reduceMod, Nat.reduceBEq, sid_mod, sid_ne1, sid_ne2, sid_inj]; first | done | rfl | (simp; done)) | assumption | rfl)) ?_
  intro i sa ⟨h0a, h6a, h7a, h8a, h9a, hIa⟩
  have hi : i = 0 ∨ i = 1 := by omega
  rcases hi with rfl | rfl
  · have z0 : ((0 : Nat) : Int) = 0 := rfl
    have hw8 : IntKind.u8.wrap (((48 + n : Nat) : Int) - 48) = (n : Int) := by
      simp [IntKind.wrap, IntKind.bits, IntKind.signed]
      omega
    have hw : IntKind.i64.wrap (n : Int) = (n : Int) := wrap_id (by omega) (by omega)
    have hm : IntKind.i64.wrap (10 * 0) = 0 := by decide
    have ha : IntKind.i64.wrap (0 + (n : Int)) = (n : Int) := by rw [Int.zero_add]; exact hw
    have h01 : IntKind.i64.wrap (0 + 1) = 1 := by decide
    simp (maxSteps:=5000000) -dsimp only [↓gp, gq, reduceCtorEq, reduceEqDiff, reduceLT, reduceLeDiff, reduceAdd, reduceMul, reduceSub, Nat.reduceBEq, Int.reduceToNat, Int.reduceLE, Int.reduceLT, Int.reduceNeg, reduceMod, sid_ne1, sid_ne2, sid_inj, sid_mod, gT, TK.isInt, TK.agg, Array.toList, h0a, h6a, h7a, h8a, h9a, chr_size, hc, hz1, z0]
    refine ⟨fun _ => ⟨fun hx => absurd hx (by omega), fun _ => again_of (1) (by refine ⟨?_, ?_, ?_, ?_, ?_, by omega⟩ <;> (first | (simp (maxSteps:=5000000) -dsimp only [gr, reduceEqDiff, reduceLT, reduceAdd, reduceMod, Nat.reduceBEq, sid_mod, sid_ne1, sid_ne2, sid_inj, h0a, h6a, h7a, h8a, h9a, hw8, hw, hm, ha, h01]; first | done | rfl | (simp; done)) | assumption | rfl)) (by first | omega | (simp only; omega) | (dsimp only; omega) | (show _ < _; simp; omega))⟩, fun hx => absurd hx (by omega)⟩
  · simp (maxSteps:=5000000) -dsimp only [↓gp, gq, reduceCtorEq, reduceEqDiff, reduceLT, reduceLeDiff, reduceAdd, reduceMul, reduceSub, Nat.reduceBEq, Int.reduceToNat, Int.reduceLE, Int.reduceLT, Int.reduceNeg, reduceMod, sid_ne1, sid_ne2, sid_inj, sid_mod, gT, TK.isInt, TK.agg, Array.toList, h0a, h6a, h7a, h8a, h9a, chr_size, hc, hz1]
    refine askK_of (c_spec_FormatInt h1 h9) ?_
    simp (maxSteps:=5000000) -dsimp only [↓gp, gq, reduceCtorEq, reduceEqDiff, reduceLT, reduceLeDiff, reduceAdd, reduceMul, reduceSub, Nat.reduceBEq, Int.reduceToNat, Int.reduceLE, Int.reduceLT, Int.reduceNeg, reduceMod, sid_ne1, sid_ne2, sid_inj, sid_mod, gT, TK.isInt, TK.agg, Array.toList, h0a, h6a, h7a, h8a, h9a, chr_size, beq_self_eq_true]
theorem c_spec_ParseInt {n : Nat} (h1 : 1 ≤ n) (h9 : n ≤ 9) : AC Tryz.prog 162 [str (chr n)] (.tup [.im (int n), .im (bool true)]) := by
  refine AC.go (rs := [.tmp 2, .tmp 3]) T_ok mixed Tryz.func162 rfl rfl rfl (by kernel_rfl) fun hl => ?_
  simp (maxSteps:=5000000) -dsimp only [↓gp, gq, reduceCtorEq, reduceEqDiff, reduceLT, reduceLeDiff, reduceAdd, reduceMul, reduceSub, Nat.reduceBEq, Int.reduceToNat, Int.reduceLE, Int.reduceLT, Int.reduceNeg, reduceMod, sid_ne1, sid_ne2, sid_inj, sid_mod, gT, TK.isInt, TK.agg, Array.toList]
  refine askK_of (c_spec_l1Read h1 h9) ?_
  simp (maxSteps:=5000000) -dsimp only [↓gp, gq, reduceCtorEq, reduceEqDiff, reduceLT, reduceLeDiff, reduceAdd, reduceMul, reduceSub, Nat.reduceBEq, Int.reduceToNat, Int.reduceLE, Int.reduceLT, Int.reduceNeg, reduceMod, sid_ne1, sid_ne2, sid_inj, sid_mod, gT, TK.isInt, TK.agg, Array.toList]
theorem c_spec_ParseComplex {t rest : ByteArray} {n : Nat} {ps : List ByteArray} (h : OkText t n rest ps) : AC Tryz.prog 84 [str t] (.tup [.ag [.im (int n), .fr 3 1 (iL (facs ps))], .im (bool true)]) := by
  refine AC.go (rs := [.cell 2 27, .tmp 3]) T_ok mixed Tryz.func84 rfl rfl rfl (by kernel_rfl) fun hl => ?_
  simp (maxSteps:=5000000) -dsimp only [↓gp, gq, reduceCtorEq, reduceEqDiff, reduceLT, reduceLeDiff, reduceAdd, reduceMul, reduceSub, Nat.reduceBEq, Int.reduceToNat, Int.reduceLE, Int.reduceLT, Int.reduceNeg, reduceMod, sid_ne1, sid_ne2, sid_inj, sid_mod, gT, TK.isInt, TK.agg, Array.toList]
  refine askK_of (c_spec_SplitByte t 58 h.size.2) ?_
  rw [h.head]
  have hz2 : (((2 : Nat) : Int) != 2) = false := rfl
  simp (maxSteps:=5000000) -dsimp only [↓gp, gq, reduceCtorEq, reduceEqDiff, reduceLT, reduceLeDiff, reduceAdd, reduceMul, reduceSub, Nat.reduceBEq, Int.reduceToNat, Int.reduceLE, Int.reduceLT, Int.reduceNeg, reduceMod, sid_ne1, sid_ne2, sid_inj, sid_mod, gT, TK.isInt, TK.agg, Array.toList, sL_length, hz2]
  refine ⟨by omega, askK_of (c_spec_ParseInt h.pts.1 (by have := h.pts; omega)) ?_⟩
  simp (maxSteps:=5000000) -dsimp only [↓gp, gq, reduceCtorEq, reduceEqDiff, reduceLT, reduceLeDiff, reduceAdd, reduceMul, reduceSub, Nat.reduceBEq, Int.reduceToNat, Int.reduceLE, Int.reduceLT, Int.reduceNeg, reduceMod, sid_ne1, sid_ne2, sid_inj, sid_mod, gT, TK.isInt, TK.agg, Array.toList]
  refine ⟨by omega, askK_of (c_spec_SplitByte rest 44 h.rsize) ?_⟩
  rw [h.parts]
  simp (maxSteps:=5000000) -dsimp only [↓gp, gq, reduceCtorEq, reduceEqDiff, reduceLT, reduceLeDiff, reduceAdd, reduceMul, reduceSub, Nat.reduceBEq, Int.reduceToNat, Int.reduceLE, Int.reduceLT, Int.reduceNeg, reduceMod, sid_ne1, sid_ne2, sid_inj, sid_mod, gT, TK.isInt, TK.agg, Array.toList, sL_length]
  refine loop_of (fun (za : Nat × Nat × PV × RK × Nat × Nat × Nat) s => match za with | (k, u, fc, kd, v, y, z) => s.sl 2 = .ref 2 1 0 ∧ s.rw 2 = ⟨1, .box 27 [int 0, .v (.slice none 0 0)]⟩ ∧ s.sl 7 = .ref 7 y 0 ∧ s.rw 7 = ⟨y, .box 27 [int n, fc]⟩ ∧ s.rw 58 = ⟨u, kd⟩ ∧ s.sl 4 = .own 13 z ∧ s.rw 13 = ⟨z, .sli 9 1 false (sL [chr n, rest])⟩ ∧ s.sl 6 = bool true ∧ s.sl 8 = .own 30 v ∧ s.rw 30 = ⟨v, .sli 9 1 false (sL ps)⟩ ∧ s.sl 9 = int k ∧ (k ≤ ps.length ∧ ((k = 0 ∧ fc = .v (.slice none 0 0)) ∨ (0 < k ∧ fc = .own 58 u ∧ kd = .sli 3 1 false (iL (facs (ps.take k))))))) (fun (k, u, fc, kd, v, y, z) => ps.length - k) ((0, 0, .v (.slice none 0 0), .dead, 1, 1, 1)) (by refine ⟨?_, ?_, ?_, ?_, ?_, ?_, ?_, ?_, ?_, ?_, ?_, by simp⟩ <;> (first | (simp (maxSteps:=5000000) -dsimp only [gr, reduceEqDiff, reduceLT, reduceAdd, reduceMod, Nat.reduceBEq, sid_mod, sid_ne1, sid_ne2, sid_inj, sL_length]; first | done | rfl | (simp; done)) | assumption | rfl)) ?_
  intro (k, u, fc, kd, v, y, z) sa ⟨h2a, r2a, h7a, r7a, r58a, h4a, r13a, h6a, h8a, r30a, h9a, hIa⟩
  obtain ⟨hk, hfc⟩ := hIa
  have hfl : (facs (ps.take k)).length = k := by unfold facs; simp; omega
  have hr1 : [chr n, rest].getD 1 ⟨#[]⟩ = rest := rfl
  rcases hfc with ⟨rfl, rfl⟩ | ⟨h0, rfl, rfl⟩
  · simp (maxSteps:=5000000) -dsimp only [↓gp, gq, reduceCtorEq, reduceEqDiff, reduceLT, reduceLeDiff, reduceAdd, reduceMul, reduceSub, Nat.reduceBEq, Int.reduceToNat, Int.reduceLE, Int.reduceLT, Int.reduceNeg, reduceMod, sid_ne1, sid_ne2, sid_inj, sid_mod, gT, TK.isInt, TK.agg, Array.toList, h2a, r2a, h7a, r7a, r58a, h4a, r13a, h6a, h8a, r30a, h9a, sL_length, hr1, h.full]
    refine ⟨fun hlt => ⟨by omega, hlt, hlt, askK_of (c_spec_ParseSet _ (h.sets _ (getD_mem ⟨#[]⟩ hlt))) ?_⟩, fun hge => absurd h.pne hge⟩
    simp (maxSteps:=5000000) -dsimp only [↓gp, gq, reduceCtorEq, reduceEqDiff, reduceLT, reduceLeDiff, reduceAdd, reduceMul, reduceSub, Nat.reduceBEq, Int.reduceToNat, Int.reduceLE, Int.reduceLT, Int.reduceNeg, reduceMod, sid_ne1, sid_ne2, sid_inj, sid_mod, gT, TK.isInt, TK.agg, Array.toList, h2a, r2a, h7a, r7a, r58a, h4a, r13a, h6a, h8a, r30a, h9a, sL_length]
    have hf1 : facs (ps.take 1) = [((setV (ps.getD 0 ⟨#[]⟩) (ps.getD 0 ⟨#[]⟩).size : Nat) : Int)] := facs_take hlt
    exact again_of ((1, u + 1, .own 58 (u + 1), .sli 3 1 false (iL (facs (ps.take 1))), v, y, z)) (by refine ⟨?_, ?_, ?_, ?_, ?_, ?_, ?_, ?_, ?_, ?_, ?_, ⟨by omega, Or.inr ⟨by omega, rfl, rfl⟩⟩⟩ <;> (first | (simp (maxSteps:=5000000) -dsimp only [gr, reduceEqDiff, reduceLT, reduceAdd, reduceMod, Nat.reduceBEq, sid_mod, sid_ne1, sid_ne2, sid_inj, h2a, r2a, h7a, r7a, r58a, h4a, r13a, h6a, h8a, r30a, h9a, hf1]; first | done | rfl | (simp; done)) | assumption | rfl)) (by first | omega | (simp only; omega) | (dsimp only; omega) | (show _ < _; simp; omega))
  · simp (maxSteps:=5000000) -dsimp only [↓gp, gq, reduceCtorEq, reduceEqDiff, reduceLT, reduceLeDiff, reduceAdd, reduceMul, reduceSub, Nat.reduceBEq, Int.reduceToNat, Int.reduceLE, Int.reduceLT, Int.reduceNeg, reduceMod, sid_ne1, sid_ne2, sid_inj, sid_mod, gT, TK.isInt, TK.agg, Array.toList, h2a, r2a, h7a, r7a, r58a, h4a, r13a, h6a, h8a, r30a, h9a, sL_length, iL_length, hfl, hr1, h.full]
    refine ⟨fun hlt => ⟨by omega, hlt, hlt, askK_of (c_spec_ParseSet _ (h.sets _ (getD_mem ⟨#[]⟩ hlt))) ?_⟩, fun hge => ?_⟩
    · simp (maxSteps:=5000000) -dsimp only [↓gp, gq, reduceCtorEq, reduceEqDiff, reduceLT, reduceLeDiff, reduceAdd, reduceMul, reduceSub, Nat.reduceBEq, Int.reduceToNat, Int.reduceLE, Int.reduceLT, Int.reduceNeg, reduceMod, sid_ne1, sid_ne2, sid_inj, sid_mod, gT, TK.isInt, TK.agg, Array.toList, h2a, r2a, h7a, r7a, r58a, h4a, r13a, h6a, h8a, r30a, h9a, sL_length, hfl]
      have hpl := h.plen
      refine ⟨by omega, ?_⟩
      exact again_of ((k + 1, u + 1, .own 58 (u + 1), .sli 3 1 false (iL (facs (ps.take (k + 1)))), v, y, z)) (by refine ⟨?_, ?_, ?_, ?_, ?_, ?_, ?_, ?_, ?_, ?_, ?_, ⟨by omega, Or.inr ⟨by omega, rfl, rfl⟩⟩⟩ <;> (first | (simp (maxSteps:=5000000) -dsimp only [gr, reduceEqDiff, reduceLT, reduceAdd, reduceMod, Nat.reduceBEq, sid_mod, sid_ne1, sid_ne2, sid_inj, h2a, r2a, h7a, r7a, r58a, h4a, r13a, h6a, h8a, r30a, h9a, facs_take hlt, wrap_nat hlt (by omega)]; first | done | rfl | (simp; done)) | assumption | rfl)) (by first | omega | (simp only; omega) | (dsimp only; omega) | (show _ < _; simp; omega))
    · obtain rfl : k = ps.length := by omega
      rw [List.take_length]
      have hcx := isCx_yes h.cx
      refine askK_of (c_spec_IsComplex n (facs ps)) ?_
      simp (maxSteps:=5000000) -dsimp only [↓gp, gq, reduceCtorEq, reduceEqDiff, reduceLT, reduceLeDiff, reduceAdd, reduceMul, reduceSub, Nat.reduceBEq, Int.reduceToNat, Int.reduceLE, Int.reduceLT, Int.reduceNeg, reduceMod, sid_ne1, sid_ne2, sid_inj, sid_mod, gT, TK.isInt, TK.agg, Array.toList, h2a, r2a, h7a, r7a, r58a, h4a, r13a, h6a, h8a, r30a, h9a, hcx, hfl, List.take_length]
def cx6 (n : Nat) (l : List Nat) : Bool := decide (1 ≤ n) && decide (n ≤ 6) && (List.range l.length).all fun k =>
  decide (l.getD k 0 < 2 ^ n) && (decide (k = 0) || (if pop6 (l.getD (k - 1) 0) = pop6 (l.getD k 0) then decide (l.getD (k - 1) 0 < l.getD k 0) else decide (pop6 (l.getD (k - 1) 0) < pop6 (l.getD k 0)))) &&
  (List.range k).all fun i => !(l.getD i 0 &&& l.getD k 0 == l.getD i 0)
theorem ofN_at {l : List Nat} {k : Nat} (h : k < l.length) : (ofN l).getD k 0 = ((l.getD k 0 : Nat) : Int) := ofN_getD h
theorem cx6_ok {n : Nat} {l : List Nat} (h : cx6 n l = true) : cxP n (ofN l) := by
  unfold cx6 at h
  simp only [Bool.and_eq_true, decide_eq_true_eq, List.all_eq_true, List.mem_range, Bool.or_eq_true, Bool.not_eq_true'] at h
  obtain ⟨⟨h1, h6⟩, hall⟩ := h
  refine ⟨by omega, by omega, fun k hk => ?_⟩
  rw [ofN_length] at hk
  obtain ⟨⟨ha, hb⟩, hc⟩ := hall k hk
  have hp := two_pow_le h6
  have hk64 : l.getD k 0 < 64 := by omega
  have at64 : ∀ i, i < l.length → l.getD i 0 < 64 := fun i hi => by have := (hall i hi).1.1; omega
  refine ⟨?_, fun h0 => ?_, fun i hi => ?_⟩
  · rw [ofN_at hk]
    unfold inSet
    refine decide_eq_true ⟨by omega, by omega, by omega, ?_⟩
    rw [pow_nat]
    omega
  · have hb := hb.resolve_left (by omega)
    have hj64 := at64 (k - 1) (by omega)
    rw [ofN_at hk, ofN_at (show k - 1 < l.length by omega)]
    generalize l.getD (k - 1) 0 = a at *
    generalize l.getD k 0 = b at *
    have ea : szOf (a : Int) = (pop6 a : Nat) := by rw [szOf, if_pos (by omega), Int.toNat_natCast, popN_6 hj64]
    have eb : szOf (b : Int) = (pop6 b : Nat) := by rw [szOf, if_pos (by omega), Int.toNat_natCast, popN_6 hk64]
    unfold befS
    rw [ea, eb, decide_eq_true (show (0 : Int) ≤ a ∧ (a : Int) < 64 by omega), decide_eq_true (show (0 : Int) ≤ b ∧ (b : Int) < 64 by omega)]
    simp only [Bool.true_and]
    by_cases he : pop6 a = pop6 b
    · rw [if_pos he] at hb
      rw [if_pos (by omega)]
      exact decide_eq_true (by have := of_decide_eq_true hb; omega)
    · rw [if_neg he] at hb
      rw [if_neg (by omega)]
      exact decide_eq_true (by have := of_decide_eq_true hb; omega)
  · have hq := hc i hi
    have hi64 := at64 i (by omega)
    rw [ofN_at hk, ofN_at (show i < l.length by omega), iand_nat (by omega) (by omega)]
    intro e
    have e : l.getD i 0 &&& l.getD k 0 = l.getD i 0 := Int.ofNat.inj e
    rw [e] at hq
    simp at hq
theorem facs_ofN (ps : List ByteArray) : facs ps = ofN (ps.map fun p => setV p p.size) := by
  unfold facs ofN
  rw [List.map_map]; rfl
theorem okText {t rest : ByteArray} {n : Nat} {ps : List ByteArray} (size : decide (2 ≤ t.size ∧ t.size ≤ 1000) = true) (pts : decide (1 ≤ n ∧ n ≤ 6) = true) (b0 : byt t 0 = 48 + n) (b1 : byt t 1 = 58) (tail : t.extract 2 t.size = rest)
    (rsize : decide (rest.size ≤ 1000) = true) (full : (rest.toList == (⟨#[]⟩ : ByteArray).toList) = false) (parts : splitB rest 44 = ps) (plen : decide (0 < ps.length ∧ ps.length ≤ 1000) = true) (sets : ps.all okSet = true)
    (head : splitB t 58 = [chr n, rest]) (cx : cx6 n (ps.map fun p => setV p p.size) = true) : OkText t n rest ps :=
  ⟨of_decide_eq_true size, of_decide_eq_true pts, b0, b1, tail, of_decide_eq_true rsize, full, parts, (of_decide_eq_true plen).2, (of_decide_eq_true plen).1, fun p hp => okSet_ok (List.all_eq_true.1 sets p hp), head, by rw [facs_ofN]; exact cx6_ok cx⟩
def ex1 : ByteArray := ⟨#[52, 58, 97, 98, 99, 44, 97, 98, 100, 44, 97, 99, 100, 44, 98, 99, 100]⟩
def ps1 : List ByteArray := [⟨#[97, 98, 99]⟩, ⟨#[97, 98, 100]⟩, ⟨#[97, 99, 100]⟩, ⟨#[98, 99, 100]⟩]
theorem okt1 : OkText ex1 4 ⟨#[97, 98, 99, 44, 97, 98, 100, 44, 97, 99, 100, 44, 98, 99, 100]⟩ ps1 := okText (by kernel_rfl) (by kernel_rfl) (by kernel_rfl) (by kernel_rfl) (by kernel_rfl) (by kernel_rfl) (by kernel_rfl) (by kernel_rfl) (by kernel_rfl) (by kernel_rfl) (by kernel_rfl) (by kernel_rfl)
def ex2 : ByteArray := ⟨#[54, 58, 97, 99, 100, 44, 98, 99, 100, 44, 97, 98, 101, 44, 97, 99, 101, 44, 98, 100, 101, 44, 97, 98, 102, 44, 98, 99, 102, 44, 97, 100, 102, 44, 99, 101, 102, 44, 100, 101, 102]⟩
def ps2 : List ByteArray := [⟨#[97, 99, 100]⟩, ⟨#[98, 99, 100]⟩, ⟨#[97, 98, 101]⟩, ⟨#[97, 99, 101]⟩, ⟨#[98, 100, 101]⟩, ⟨#[97, 98, 102]⟩, ⟨#[98, 99, 102]⟩, ⟨#[97, 100, 102]⟩, ⟨#[99, 101, 102]⟩, ⟨#[100, 101, 102]⟩]
theorem okt2 : OkText ex2 6 ⟨#[97, 99, 100, 44, 98, 99, 100, 44, 97, 98, 101, 44, 97, 99, 101, 44, 98, 100, 101, 44, 97, 98, 102, 44, 98, 99, 102, 44, 97, 100, 102, 44, 99, 101, 102, 44, 100, 101, 102]⟩ ps2 := okText (by kernel_rfl) (by kernel_rfl) (by kernel_rfl) (by kernel_rfl) (by kernel_rfl) (by kernel_rfl) (by kernel_rfl) (by kernel_rfl) (by kernel_rfl) (by kernel_rfl) (by kernel_rfl) (by kernel_rfl)
def ex3 : ByteArray := ⟨#[53, 58, 97, 98, 44, 98, 99, 44, 99, 100, 44, 97, 101, 44, 100, 101]⟩
def ps3 : List ByteArray := [⟨#[97, 98]⟩, ⟨#[98, 99]⟩, ⟨#[99, 100]⟩, ⟨#[97, 101]⟩, ⟨#[100, 101]⟩]
theorem okt3 : OkText ex3 5 ⟨#[97, 98, 44, 98, 99, 44, 99, 100, 44, 97, 101, 44, 100, 101]⟩ ps3 := okText (by kernel_rfl) (by kernel_rfl) (by kernel_rfl) (by kernel_rfl) (by kernel_rfl) (by kernel_rfl) (by kernel_rfl) (by kernel_rfl) (by kernel_rfl) (by kernel_rfl) (by kernel_rfl) (by kernel_rfl)
def ex4 : ByteArray := ⟨#[53, 58, 97, 98, 99, 44, 99, 100, 101]⟩
def ps4 : List ByteArray := [⟨#[97, 98, 99]⟩, ⟨#[99, 100, 101]⟩]
theorem okt4 : OkText ex4 5 ⟨#[97, 98, 99, 44, 99, 100, 101]⟩ ps4 := okText (by kernel_rfl) (by kernel_rfl) (by kernel_rfl) (by kernel_rfl) (by kernel_rfl) (by kernel_rfl) (by kernel_rfl) (by kernel_rfl) (by kernel_rfl) (by kernel_rfl) (by kernel_rfl) (by kernel_rfl)
def ex5 : ByteArray := ⟨#[54, 58, 97, 98, 99, 44, 97, 99, 100, 44, 97, 98, 101, 44, 97, 100, 101, 44, 98, 99, 102, 44, 99, 100, 102, 44, 98, 101, 102, 44, 100, 101, 102]⟩
def ps5 : List ByteArray := [⟨#[97, 98, 99]⟩, ⟨#[97, 99, 100]⟩, ⟨#[97, 98, 101]⟩, ⟨#[97, 100, 101]⟩, ⟨#[98, 99, 102]⟩, ⟨#[99, 100, 102]⟩, ⟨#[98, 101, 102]⟩, ⟨#[100, 101, 102]⟩]
theorem okt5 : OkText ex5 6 ⟨#[97, 98, 99, 44, 97, 99, 100, 44, 97, 98, 101, 44, 97, 100, 101, 44, 98, 99, 102, 44, 99, 100, 102, 44, 98, 101, 102, 44, 100, 101, 102]⟩ ps5 := okText (by kernel_rfl) (by kernel_rfl) (by kernel_rfl) (by kernel_rfl) (by kernel_rfl) (by kernel_rfl) (by kernel_rfl) (by kernel_rfl) (by kernel_rfl) (by kernel_rfl) (by kernel_rfl) (by kernel_rfl)
def ex6 : ByteArray := ⟨#[54, 58, 97, 98, 44, 99, 100, 44, 101, 102]⟩
def ps6 : List ByteArray := [⟨#[97, 98]⟩, ⟨#[99, 100]⟩, ⟨#[101, 102]⟩]
theorem okt6 : OkText ex6 6 ⟨#[97, 98, 44, 99, 100, 44, 101, 102]⟩ ps6 := okText (by kernel_rfl) (by kernel_rfl) (by kernel_rfl) (by kernel_rfl) (by kernel_rfl) (by kernel_rfl) (by kernel_rfl) (by kernel_rfl) (by kernel_rfl) (by kernel_rfl) (by kernel_rfl) (by kernel_rfl)
def ex7 : ByteArray := ⟨#[52, 58, 97, 98, 44, 98, 99, 44, 99, 100]⟩
def ps7 : List ByteArray := [⟨#[97, 98]⟩, ⟨#[98, 99]⟩, ⟨#[99, 100]⟩]
theorem okt7 : OkText ex7 4 ⟨#[97, 98, 44, 98, 99, 44, 99, 100]⟩ ps7 := okText (by kernel_rfl) (by kernel_rfl) (by kernel_rfl) (by kernel_rfl) (by kernel_rfl) (by kernel_rfl) (by kernel_rfl) (by kernel_rfl) (by kernel_rfl) (by kernel_rfl) (by kernel_rfl) (by kernel_rfl)
def ex8 : ByteArray := ⟨#[53, 58, 97, 98, 99, 44, 97, 98, 100, 44, 99, 100, 101]⟩
def ps8 : List ByteArray := [⟨#[97, 98, 99]⟩, ⟨#[97, 98, 100]⟩, ⟨#[99, 100, 101]⟩]
theorem okt8 : OkText ex8 5 ⟨#[97, 98, 99, 44, 97, 98, 100, 44, 99, 100, 101]⟩ ps8 := okText (by kernel_rfl) (by kernel_rfl) (by kernel_rfl) (by kernel_rfl) (by kernel_rfl) (by kernel_rfl) (by kernel_rfl) (by kernel_rfl) (by kernel_rfl) (by kernel_rfl) (by kernel_rfl) (by kernel_rfl)
def exText (k : Int) : ByteArray := if k = 1 then ex1 else if k = 2 then ex2 else if k = 3 then ex3 else if k = 4 then ex4 else if k = 5 then ex5 else if k = 6 then ex6 else if k = 7 then ex7 else if k = 8 then ex8 else ⟨#[]⟩
def exPts (k : Int) : Nat := if k = 1 then 4 else if k = 2 then 6 else if k = 3 then 5 else if k = 4 then 5 else if k = 5 then 6 else if k = 6 then 6 else if k = 7 then 4 else if k = 8 then 5 else 0
def exPs (k : Int) : List ByteArray := if k = 1 then ps1 else if k = 2 then ps2 else if k = 3 then ps3 else if k = 4 then ps4 else if k = 5 then ps5 else if k = 6 then ps6 else if k = 7 then ps7 else if k = 8 then ps8 else []
theorem exText_out {k : Int} (h : ¬ (1 ≤ k ∧ k ≤ 8)) : exText k = ⟨#[]⟩ := by
  unfold exText
  rw [if_neg (by omega)]
  rw [if_neg (by omega)]
  rw [if_neg (by omega)]
  rw [if_neg (by omega)]
  rw [if_neg (by omega)]
  rw [if_neg (by omega)]
  rw [if_neg (by omega)]
  rw [if_neg (by omega)]
theorem exPts_out {k : Int} (h : ¬ (1 ≤ k ∧ k ≤ 8)) : exPts k = 0 := by
  unfold exPts
  rw [if_neg (by omega)]
  rw [if_neg (by omega)]
  rw [if_neg (by omega)]
  rw [if_neg (by omega)]
  rw [if_neg (by omega)]
  rw [if_neg (by omega)]
  rw [if_neg (by omega)]
  rw [if_neg (by omega)]
theorem exPs_out {k : Int} (h : ¬ (1 ≤ k ∧ k ≤ 8)) : exPs k = [] := by
  unfold exPs
  rw [if_neg (by omega)]
  rw [if_neg (by omega)]
  rw [if_neg (by omega)]
  rw [if_neg (by omega)]
  rw [if_neg (by omega)]
  rw [if_neg (by omega)]
  rw [if_neg (by omega)]
  rw [if_neg (by omega)]
theorem exText_in {k : Int} (h : 1 ≤ k ∧ k ≤ 8) : ∃ rest, OkText (exText k) (exPts k) rest (exPs k) := by
  have : k = 1 ∨ k = 2 ∨ k = 3 ∨ k = 4 ∨ k = 5 ∨ k = 6 ∨ k = 7 ∨ k = 8 := by omega
  rcases this with rfl | rfl | rfl | rfl | rfl | rfl | rfl | rfl
  · exact ⟨_, okt1⟩
  · exact ⟨_, okt2⟩
  · exact ⟨_, okt3⟩
  · exact ⟨_, okt4⟩
  · exact ⟨_, okt5⟩
  · exact ⟨_, okt6⟩
  · exact ⟨_, okt7⟩
  · exact ⟨_, okt8⟩
theorem ex_eq {k j : Int} {b : ByteArray} (e : (k == j) = true) (h : exText j = b) : exText k = b := by rw [beq_iff_eq.1 e]; exact h
theorem c_impl_ExampleText (k : Int) : AC Tryz.prog 13 [int k] (.im (str (exText k))) := by
  refine AC.go (rs := [.tmp 2]) T_ok mixed Tryz.func13 rfl rfl rfl (by kernel_rfl) fun hl => ?_
  simp (maxSteps:=5000000) -dsimp only [↓gp, gq, reduceCtorEq, reduceEqDiff, reduceLT, reduceLeDiff, reduceAdd, reduceMul, reduceSub, Nat.reduceBEq, Int.reduceToNat, Int.reduceLE, Int.reduceLT, Int.reduceNeg, reduceMod, sid_ne1, sid_ne2, sid_inj, sid_mod, gT, TK.isInt, TK.agg, Array.toList]
  exact ⟨fun e => ex_eq e rfl, fun n1 => ⟨fun e => ex_eq e rfl, fun n2 => ⟨fun e => ex_eq e rfl, fun n3 => ⟨fun e => ex_eq e rfl, fun n4 => ⟨fun e => ex_eq e rfl, fun n5 => ⟨fun e => ex_eq e rfl, fun n6 => ⟨fun e => ex_eq e rfl, fun n7 => ⟨fun e => ex_eq e rfl, fun n8 => exText_out (by have := beq_eq_false_iff_ne.1 n1; have := beq_eq_false_iff_ne.1 n2; have := beq_eq_false_iff_ne.1 n3; have := beq_eq_false_iff_ne.1 n4; have := beq_eq_false_iff_ne.1 n5; have := beq_eq_false_iff_ne.1 n6; have := beq_eq_false_iff_ne.1 n7; have := beq_eq_false_iff_ne.1 n8; omega)⟩⟩⟩⟩⟩⟩⟩⟩
theorem c_spec_ExampleText (k : Int) : AC Tryz.prog 14 [int k] (.im (str (exText k))) := by
  refine AC.go (rs := [.tmp 2]) T_ok mixed Tryz.func14 rfl rfl rfl (by kernel_rfl) fun hl => ?_
  simp (maxSteps:=5000000) -dsimp only [↓gp, gq, reduceCtorEq, reduceEqDiff, reduceLT, reduceLeDiff, reduceAdd, reduceMul, reduceSub, Nat.reduceBEq, Int.reduceToNat, Int.reduceLE, Int.reduceLT, Int.reduceNeg, reduceMod, sid_ne1, sid_ne2, sid_inj, sid_mod, gT, TK.isInt, TK.agg, Array.toList]
  exact ⟨fun e => ex_eq e rfl, fun n1 => ⟨fun e => ex_eq e rfl, fun n2 => ⟨fun e => ex_eq e rfl, fun n3 => ⟨fun e => ex_eq e rfl, fun n4 => ⟨fun e => ex_eq e rfl, fun n5 => ⟨fun e => ex_eq e rfl, fun n6 => ⟨fun e => ex_eq e rfl, fun n7 => ⟨fun e => ex_eq e rfl, fun n8 => exText_out (by have := beq_eq_false_iff_ne.1 n1; have := beq_eq_false_iff_ne.1 n2; have := beq_eq_false_iff_ne.1 n3; have := beq_eq_false_iff_ne.1 n4; have := beq_eq_false_iff_ne.1 n5; have := beq_eq_false_iff_ne.1 n6; have := beq_eq_false_iff_ne.1 n7; have := beq_eq_false_iff_ne.1 n8; omega)⟩⟩⟩⟩⟩⟩⟩⟩
theorem c_impl_ParseComplex_0 : AC Tryz.prog 83 [str ⟨#[]⟩] (.tup [.ag [.im (int 0), .fr 3 1 (iL [])], .im (bool false)]) := by
  refine AC.go (rs := [.cell 2 27, .tmp 3]) T_ok mixed Tryz.func83 rfl rfl rfl (by kernel_rfl) fun hl => ?_
  simp (maxSteps:=5000000) -dsimp only [↓gp, gq, reduceCtorEq, reduceEqDiff, reduceLT, reduceLeDiff, reduceAdd, reduceMul, reduceSub, Nat.reduceBEq, Int.reduceToNat, Int.reduceLE, Int.reduceLT, Int.reduceNeg, reduceMod, sid_ne1, sid_ne2, sid_inj, sid_mod, gT, TK.isInt, TK.agg, Array.toList]
  have h0 : AC Tryz.prog 158 [str ⟨#[]⟩] (.tup [.im (int 0), .im (str ⟨#[]⟩), .im (bool false)]) := by
    refine AC.go (rs := [.tmp 2, .tmp 3, .tmp 4]) T_ok mixed Tryz.func158 rfl rfl rfl (by kernel_rfl) fun hl => ?_
    have hz : (((⟨#[]⟩ : ByteArray).size : Nat) : Int) = 0 := rfl
    simp (maxSteps:=5000000) -dsimp only [↓gp, gq, reduceCtorEq, reduceEqDiff, reduceLT, reduceLeDiff, reduceAdd, reduceMul, reduceSub, Nat.reduceBEq, Int.reduceToNat, Int.reduceLE, Int.reduceLT, Int.reduceNeg, reduceMod, sid_ne1, sid_ne2, sid_inj, sid_mod, gT, TK.isInt, TK.agg, Array.toList, hz]
  refine askK_of h0 ?_
  simp (maxSteps:=5000000) -dsimp only [↓gp, gq, reduceCtorEq, reduceEqDiff, reduceLT, reduceLeDiff, reduceAdd, reduceMul, reduceSub, Nat.reduceBEq, Int.reduceToNat, Int.reduceLE, Int.reduceLT, Int.reduceNeg, reduceMod, sid_ne1, sid_ne2, sid_inj, sid_mod, gT, TK.isInt, TK.agg, Array.toList, adopt_tvvv]
  rfl
theorem c_spec_ParseComplex_0 : AC Tryz.prog 84 [str ⟨#[]⟩] (.tup [.ag [.im (int 0), .fr 3 1 (iL [])], .im (bool false)]) := by
  refine AC.go (rs := [.cell 2 27, .tmp 3]) T_ok mixed Tryz.func84 rfl rfl rfl (by kernel_rfl) fun hl => ?_
  simp (maxSteps:=5000000) -dsimp only [↓gp, gq, reduceCtorEq, reduceEqDiff, reduceLT, reduceLeDiff, reduceAdd, reduceMul, reduceSub, Nat.reduceBEq, Int.reduceToNat, Int.reduceLE, Int.reduceLT, Int.reduceNeg, reduceMod, sid_ne1, sid_ne2, sid_inj, sid_mod, gT, TK.isInt, TK.agg, Array.toList]
  refine askK_of (c_spec_SplitByte ⟨#[]⟩ 58 (by decide)) ?_
  have hz : (((splitB ⟨#[]⟩ 58).length : Nat) : Int) = 1 := rfl
  have hz2 : ((1 : Int) != 2) = true := rfl
  simp (maxSteps:=5000000) -dsimp only [↓gp, gq, reduceCtorEq, reduceEqDiff, reduceLT, reduceLeDiff, reduceAdd, reduceMul, reduceSub, Nat.reduceBEq, Int.reduceToNat, Int.reduceLE, Int.reduceLT, Int.reduceNeg, reduceMod, sid_ne1, sid_ne2, sid_inj, sid_mod, gT, TK.isInt, TK.agg, Array.toList, sL_length, hz, hz2]
  rfl
theorem c_impl_ExampleComplex (k : Int) : AC Tryz.prog 9 [int k] (.tup [.ag [.im (int (exPts k)), .fr 3 1 (iL (facs (exPs k)))], .im (bool (decide (1 ≤ k ∧ k ≤ 8)))]) := by
  refine AC.go (rs := [.cell 2 27, .tmp 3]) T_ok mixed Tryz.func9 rfl rfl rfl (by kernel_rfl) fun hl => ?_
  simp (maxSteps:=5000000) -dsimp only [↓gp, gq, reduceCtorEq, reduceEqDiff, reduceLT, reduceLeDiff, reduceAdd, reduceMul, reduceSub, Nat.reduceBEq, Int.reduceToNat, Int.reduceLE, Int.reduceLT, Int.reduceNeg, reduceMod, sid_ne1, sid_ne2, sid_inj, sid_mod, gT, TK.isInt, TK.agg, Array.toList]
  refine askK_of (c_impl_ExampleText k) ?_
  by_cases h : 1 ≤ k ∧ k ≤ 8
  · obtain ⟨rest, ht⟩ := exText_in h
    rw [decide_eq_true h]
    simp (maxSteps:=5000000) -dsimp only [↓gp, gq, reduceCtorEq, reduceEqDiff, reduceLT, reduceLeDiff, reduceAdd, reduceMul, reduceSub, Nat.reduceBEq, Int.reduceToNat, Int.reduceLE, Int.reduceLT, Int.reduceNeg, reduceMod, sid_ne1, sid_ne2, sid_inj, sid_mod, gT, TK.isInt, TK.agg, Array.toList]
    refine askK_of (c_impl_ParseComplex ht) ?_
    simp (maxSteps:=5000000) -dsimp only [↓gp, gq, reduceCtorEq, reduceEqDiff, reduceLT, reduceLeDiff, reduceAdd, reduceMul, reduceSub, Nat.reduceBEq, Int.reduceToNat, Int.reduceLE, Int.reduceLT, Int.reduceNeg, reduceMod, sid_ne1, sid_ne2, sid_inj, sid_mod, gT, TK.isInt, TK.agg, Array.toList]
  · rw [exText_out h, exPts_out h, exPs_out h, decide_eq_false h]
    simp (maxSteps:=5000000) -dsimp only [↓gp, gq, reduceCtorEq, reduceEqDiff, reduceLT, reduceLeDiff, reduceAdd, reduceMul, reduceSub, Nat.reduceBEq, Int.reduceToNat, Int.reduceLE, Int.reduceLT, Int.reduceNeg, reduceMod, sid_ne1, sid_ne2, sid_inj, sid_mod, gT, TK.isInt, TK.agg, Array.toList]
    refine askK_of c_impl_ParseComplex_0 ?_
    simp (maxSteps:=5000000) -dsimp only [↓gp, gq, reduceCtorEq, reduceEqDiff, reduceLT, reduceLeDiff, reduceAdd, reduceMul, reduceSub, Nat.reduceBEq, Int.reduceToNat, Int.reduceLE, Int.reduceLT, Int.reduceNeg, reduceMod, sid_ne1, sid_ne2, sid_inj, sid_mod, gT, TK.isInt, TK.agg, Array.toList, facs, List.map_nil]
    rfl
theorem c_spec_ExampleComplex (k : Int) : AC Tryz.prog 10 [int k] (.tup [.ag [.im (int (exPts k)), .fr 3 1 (iL (facs (exPs k)))], .im (bool (decide (1 ≤ k ∧ k ≤ 8)))]) := by
  refine AC.go (rs := [.cell 2 27, .tmp 3]) T_ok mixed Tryz.func10 rfl rfl rfl (by kernel_rfl) fun hl => ?_
  simp (maxSteps:=5000000) -dsimp only [↓gp, gq, reduceCtorEq, reduceEqDiff, reduceLT, reduceLeDiff, reduceAdd, reduceMul, reduceSub, Nat.reduceBEq, Int.reduceToNat, Int.reduceLE, Int.reduceLT, Int.reduceNeg, reduceMod, sid_ne1, sid_ne2, sid_inj, sid_mod, gT, TK.isInt, TK.agg, Array.toList]
  refine askK_of (c_spec_ExampleText k) ?_
  by_cases h : 1 ≤ k ∧ k ≤ 8
  · obtain ⟨rest, ht⟩ := exText_in h
    rw [decide_eq_true h]
    simp (maxSteps:=5000000) -dsimp only [↓gp, gq, reduceCtorEq, reduceEqDiff, reduceLT, reduceLeDiff, reduceAdd, reduceMul, reduceSub, Nat.reduceBEq, Int.reduceToNat, Int.reduceLE, Int.reduceLT, Int.reduceNeg, reduceMod, sid_ne1, sid_ne2, sid_inj, sid_mod, gT, TK.isInt, TK.agg, Array.toList]
    refine askK_of (c_spec_ParseComplex ht) ?_
    simp (maxSteps:=5000000) -dsimp only [↓gp, gq, reduceCtorEq, reduceEqDiff, reduceLT, reduceLeDiff, reduceAdd, reduceMul, reduceSub, Nat.reduceBEq, Int.reduceToNat, Int.reduceLE, Int.reduceLT, Int.reduceNeg, reduceMod, sid_ne1, sid_ne2, sid_inj, sid_mod, gT, TK.isInt, TK.agg, Array.toList]
  · rw [exText_out h, exPts_out h, exPs_out h, decide_eq_false h]
    simp (maxSteps:=5000000) -dsimp only [↓gp, gq, reduceCtorEq, reduceEqDiff, reduceLT, reduceLeDiff, reduceAdd, reduceMul, reduceSub, Nat.reduceBEq, Int.reduceToNat, Int.reduceLE, Int.reduceLT, Int.reduceNeg, reduceMod, sid_ne1, sid_ne2, sid_inj, sid_mod, gT, TK.isInt, TK.agg, Array.toList]
    refine askK_of c_spec_ParseComplex_0 ?_
    simp (maxSteps:=5000000) -dsimp only [↓gp, gq, reduceCtorEq, reduceEqDiff, reduceLT, reduceLeDiff, reduceAdd, reduceMul, reduceSub, Nat.reduceBEq, Int.reduceToNat, Int.reduceLE, Int.reduceLT, Int.reduceNeg, reduceMod, sid_ne1, sid_ne2, sid_inj, sid_mod, gT, TK.isInt, TK.agg, Array.toList, facs, List.map_nil]
    rfl
def dx1 : ByteArray := ⟨#[54, 58, 97, 98, 100, 44, 97, 98, 101, 44, 97, 99, 101, 44, 98, 99, 101, 44, 99, 100, 101, 44, 97, 99, 102, 44, 98, 99, 102, 44, 97, 100, 102, 44, 98, 100, 102]⟩
theorem okd1 : OkText dx1 6 ⟨#[97, 98, 100, 44, 97, 98, 101, 44, 97, 99, 101, 44, 98, 99, 101, 44, 99, 100, 101, 44, 97, 99, 102, 44, 98, 99, 102, 44, 97, 100, 102, 44, 98, 100, 102]⟩ [⟨#[97, 98, 100]⟩, ⟨#[97, 98, 101]⟩, ⟨#[97, 99, 101]⟩, ⟨#[98, 99, 101]⟩, ⟨#[99, 100, 101]⟩, ⟨#[97, 99, 102]⟩, ⟨#[98, 99, 102]⟩, ⟨#[97, 100, 102]⟩, ⟨#[98, 100, 102]⟩] := okText (by kernel_rfl) (by kernel_rfl) (by kernel_rfl) (by kernel_rfl) (by kernel_rfl) (by kernel_rfl) (by kernel_rfl) (by kernel_rfl) (by kernel_rfl) (by kernel_rfl) (by kernel_rfl) (by kernel_rfl)
def dx2 : ByteArray := ⟨#[52, 58, 97, 98, 99, 44, 97, 98, 100]⟩
theorem okd2 : OkText dx2 4 ⟨#[97, 98, 99, 44, 97, 98, 100]⟩ [⟨#[97, 98, 99]⟩, ⟨#[97, 98, 100]⟩] := okText (by kernel_rfl) (by kernel_rfl) (by kernel_rfl) (by kernel_rfl) (by kernel_rfl) (by kernel_rfl) (by kernel_rfl) (by kernel_rfl) (by kernel_rfl) (by kernel_rfl) (by kernel_rfl) (by kernel_rfl)
def dxL : List ByteArray := [ex5, ex2, dx1, ex3, ex7, ex6, ex4, dx2]
theorem dxL_ok {t : ByteArray} (h : t ∈ dxL) : ∃ n rest ps, OkText t n rest ps ∧ n ≤ 6 ∧ ps.length ≤ 10 := by
  simp only [dxL, List.mem_cons, List.not_mem_nil, or_false] at h
  rcases h with rfl | rfl | rfl | rfl | rfl | rfl | rfl | rfl
  · exact ⟨_, _, _, okt5, by decide, by decide⟩
  · exact ⟨_, _, _, okt2, by decide, by decide⟩
  · exact ⟨_, _, _, okd1, by decide, by decide⟩
  · exact ⟨_, _, _, okt3, by decide, by decide⟩
  · exact ⟨_, _, _, okt7, by decide, by decide⟩
  · exact ⟨_, _, _, okt6, by decide, by decide⟩
  · exact ⟨_, _, _, okt4, by decide, by decide⟩
  · exact ⟨_, _, _, okd2, by decide, by decide⟩
theorem cx_parsed {m : Nat} {ps : List ByteArray} (hm : m ≤ 6) (hps : ps.length ≤ 10) : kcx cxQ (.ag [.im (int m), .fr 3 1 (iL (facs ps))]) :=
  ⟨_, _, rfl, by omega, by omega, by rw [facs_ofN, ofN_length, List.length_map]; omega⟩
theorem c_spec_BorderComplex (n : Nat) (hn1 : 1 ≤ n) (hn : n ≤ 6) : AC Tryz.prog 201 [int n] (.tup [.ag [.im (int n), .fr 3 1 (iL (ofN (extN (inF (ofN (List.range (2 ^ n - 1)))) true)))], .im (bool true)]) := by
  refine AC.go (rs := [.cell 2 27, .tmp 3]) T_ok mixed Tryz.func201 rfl rfl rfl (by kernel_rfl) fun hl => ?_
  have h64 := two_pow_le hn
  have hp : 0 < 2 ^ n := Nat.pow_pos (by omega)
  have hsh : ishl .i64 1 (n : Int) = ((2 ^ n : Nat) : Int) := ishl_small (by omega)
  have hun : IntKind.u64.wrap (n : Int) = (n : Int) := uwrap_id (by omega)
  have hw : IntKind.i64.wrap (((2 ^ n : Nat) : Int) - 1) = ((2 ^ n - 1 : Nat) : Int) := by rw [wrap_id (by omega) (by omega)]; omega
  simp (maxSteps:=5000000) -dsimp only [↓gp, gq, reduceCtorEq, reduceEqDiff, reduceLT, reduceLeDiff, reduceAdd, reduceMul, reduceSub, Nat.reduceBEq, Int.reduceToNat, Int.reduceLE, Int.reduceLT, Int.reduceNeg, reduceMod, sid_ne1, sid_ne2, sid_inj, sid_mod, gT, TK.isInt, TK.agg, Array.toList]
  refine askK_of (c_spec_l1In _ _ _) ?_
  have hin : (decide (1 ≤ (n : Int)) && decide ((n : Int) ≤ 6)) = true := by rw [decide_eq_true (by omega), decide_eq_true (by omega)]; rfl
  simp (maxSteps:=5000000) -dsimp only [↓gp, gq, reduceCtorEq, reduceEqDiff, reduceLT, reduceLeDiff, reduceAdd, reduceMul, reduceSub, Nat.reduceBEq, Int.reduceToNat, Int.reduceLE, Int.reduceLT, Int.reduceNeg, reduceMod, sid_ne1, sid_ne2, sid_inj, sid_mod, gT, TK.isInt, TK.agg, Array.toList, hin]
  refine loop_of (fun (za : Nat × Nat) s => match za with | (k, v) => s.sl 0 = int n ∧ s.sl 2 = .ref 2 1 0 ∧ s.rw 2 = ⟨1, .box 27 [int 0, .v (.slice none 0 0)]⟩ ∧ s.sl 4 = .own 10 v ∧ s.rw 10 = ⟨v, .sli 3 1 false (iL (ofN (List.range k)))⟩ ∧ s.sl 5 = int k ∧ (k ≤ 2 ^ n - 1)) (fun (k, v) => 2 ^ n - 1 - k) ((0, 1)) (by refine ⟨?_, ?_, ?_, ?_, ?_, ?_, Nat.zero_le _⟩ <;> (first | (simp (maxSteps:=5000000) -dsimp only [gr, reduceEqDiff, reduceLT, reduceAdd, reduceMod, Nat.reduceBEq, sid_mod, sid_ne1, sid_ne2, sid_inj]; first | done | rfl | (simp; done)) | assumption | rfl)) ?_
  intro (k, v) sa ⟨h0a, h2a, r2a, h4a, r10a, h5a, hIa⟩
  simp (maxSteps:=5000000) -dsimp only [↓gp, gq, reduceCtorEq, reduceEqDiff, reduceLT, reduceLeDiff, reduceAdd, reduceMul, reduceSub, Nat.reduceBEq, Int.reduceToNat, Int.reduceLE, Int.reduceLT, Int.reduceNeg, reduceMod, sid_ne1, sid_ne2, sid_inj, sid_mod, gT, TK.isInt, TK.agg, Array.toList, h0a, h2a, r2a, h4a, r10a, h5a, hsh, hun, hw]
  refine ⟨fun h => ?_, fun h => ?_⟩
  · simp (maxSteps:=5000000) -dsimp only [↓gp, gq, reduceCtorEq, reduceEqDiff, reduceLT, reduceLeDiff, reduceAdd, reduceMul, reduceSub, Nat.reduceBEq, Int.reduceToNat, Int.reduceLE, Int.reduceLT, Int.reduceNeg, reduceMod, sid_ne1, sid_ne2, sid_inj, sid_mod, gT, TK.isInt, TK.agg, Array.toList, h0a, h2a, r2a, h4a, r10a, h5a, ofN_length, List.length_range]
    refine ⟨by omega, ?_⟩
    exact again_of ((k + 1, v + 1)) (by refine ⟨?_, ?_, ?_, ?_, ?_, ?_, by dsimp only; omega⟩ <;> (first | (simp (maxSteps:=5000000) -dsimp only [gr, reduceEqDiff, reduceLT, reduceAdd, reduceMod, Nat.reduceBEq, sid_mod, sid_ne1, sid_ne2, sid_inj, h0a, h2a, r2a, h4a, r10a, h5a, List.range_succ, ofN_append, ofN_one, wrap_nat h (by omega)]; first | done | rfl | (simp; done)) | assumption | rfl)) (by first | omega | (simp only; omega) | (dsimp only; omega) | (show _ < _; simp; omega))
  · have hk : k = 2 ^ n - 1 := by omega
    rw [hk] at r10a ⊢
    have hok : okS (ofN (List.range (2 ^ n - 1))) := fun x hx => by
      obtain ⟨s, hs, rfl⟩ := List.mem_map.1 hx
      have := List.mem_range.1 hs
      omega
    refine askK_of (c_spec_l3Make n _ hok) ?_
    simp (maxSteps:=5000000) -dsimp only [↓gp, gq, reduceCtorEq, reduceEqDiff, reduceLT, reduceLeDiff, reduceAdd, reduceMul, reduceSub, Nat.reduceBEq, Int.reduceToNat, Int.reduceLE, Int.reduceLT, Int.reduceNeg, reduceMod, sid_ne1, sid_ne2, sid_inj, sid_mod, gT, TK.isInt, TK.agg, Array.toList, h0a, h2a, r2a, h4a, r10a, h5a]
theorem c_spec_l3Draw (bs : List Int) (hbs : bs.length ≤ 9223372036854775806) : ACur Tryz.prog 166 TC bs ⟨0, .dead⟩ [] (kcx cxQ) := by
  intro i h
  refine AG.go (rs := [.cell 2 27]) T_ok mixed Tryz.func166 rfl rfl rfl (by kernel_rfl) fun hl _ s hs hR => ?_
  have e0 : s.rw 1000000 = ⟨1, .box TC [.sl false 1 (kL .u8 bs), int i, int h]⟩ := by rw [hR]; rfl
  have e1 : s.rw 1000500 = ⟨0, .dead⟩ := by rw [hR]; rfl
  have elo : ∀ k, k < 1000000 → s.rw k = ⟨0, .dead⟩ := fun k hk => by rw [hR]; exact curR_lo hk
  simp (maxSteps:=5000000) -dsimp only [↓gp, gq, reduceCtorEq, reduceEqDiff, reduceLT, reduceLeDiff, reduceAdd, reduceMul, reduceSub, Nat.reduceBEq, Int.reduceToNat, Int.reduceLE, Int.reduceLT, Int.reduceNeg, reduceMod, sid_ne1, sid_ne2, sid_inj, sid_mod, gT, TK.isInt, TK.agg, Array.toList, hs, e0, elo]
  refine askCur_of (c_spec_l1PickInt bs hbs [1, 2, 3, 4, 4, 5, 5, 6] (by decide) (by decide)) (.some (j := 9) (by simp (maxSteps:=5000000) -dsimp only [gr, reduceEqDiff, reduceLT, reduceAdd, reduceMod, Nat.reduceBEq, sid_mod, sid_ne1, sid_ne2, sid_inj, elo] <;> rfl) (plain_iL _)) (by simp (maxSteps:=5000000) -dsimp only [gr, reduceEqDiff, reduceLT, reduceAdd, reduceMod, Nat.reduceBEq, sid_mod, sid_ne1, sid_ne2, sid_inj, e0] <;> rfl) (.one (gv_cur (by simp (maxSteps:=5000000) -dsimp only [gr, reduceEqDiff, reduceLT, reduceAdd, reduceMod, Nat.reduceBEq, sid_mod, sid_ne1, sid_ne2, sid_inj, e0] <;> rfl)) (.one (gv_list (by simp (maxSteps:=5000000) -dsimp only [gr, reduceEqDiff, reduceLT, reduceAdd, reduceMod, Nat.reduceBEq, sid_mod, sid_ne1, sid_ne2, sid_inj, elo])) .nil)) rfl (fun j hj => by cases hj; exact ⟨rfl, rfl⟩) fun rv i1 g1 ⟨n0, hrv, hc⟩ => ?_
  subst hrv
  obtain ⟨n, rfl, hn1, hn⟩ : ∃ n : Nat, n0 = n ∧ 1 ≤ n ∧ n ≤ 6 := by
    have hc : n0 ∈ [1, 2, 3, 4, 4, 5, 5, 6] := hc
    simp at hc
    exact ⟨n0.toNat, by omega, by omega, by omega⟩
  simp (maxSteps:=5000000) -dsimp only [↓gp, gq, reduceCtorEq, reduceEqDiff, reduceLT, reduceLeDiff, reduceAdd, reduceMul, reduceSub, Nat.reduceBEq, Int.reduceToNat, Int.reduceLE, Int.reduceLT, Int.reduceNeg, reduceMod, sid_ne1, sid_ne2, sid_inj, sid_mod, gT, TK.isInt, TK.agg, Array.toList, hs, e0, elo]
  refine askCur_of (c_spec_l1Below bs hbs 8 (by decide)) .none (by simp (maxSteps:=5000000) -dsimp only [gr, reduceEqDiff, reduceLT, reduceAdd, reduceMod, Nat.reduceBEq, sid_mod, sid_ne1, sid_ne2, sid_inj, e0, elo] <;> rfl) (GvL.one (gv_cur (by simp (maxSteps:=5000000) -dsimp only [gr, reduceEqDiff, reduceLT, reduceAdd, reduceMod, Nat.reduceBEq, sid_mod, sid_ne1, sid_ne2, sid_inj, e0, elo] <;> rfl)) (by repeat (first | exact GvL.nil | refine GvL.one (GvA.v _) ?_ | refine GvL.one (GvA.sl _ _ _) ?_))) rfl (fun _ h => by cases h) fun rv i2 g2 ⟨x, hrv, hx⟩ => ?_
  subst hrv
  simp (maxSteps:=5000000) -dsimp only [↓gp, gq, reduceCtorEq, reduceEqDiff, reduceLT, reduceLeDiff, reduceAdd, reduceMul, reduceSub, Nat.reduceBEq, Int.reduceToNat, Int.reduceLE, Int.reduceLT, Int.reduceNeg, reduceMod, sid_ne1, sid_ne2, sid_inj, sid_mod, gT, TK.isInt, TK.agg, Array.toList, hs, e0, elo]
  refine ⟨fun h0 => askK_of (c_spec_BorderComplex n hn1 hn) ?_, fun h0 => ⟨fun h1 => ?_, fun h1 => ?_⟩⟩
  · simp (maxSteps:=5000000) -dsimp only [↓gp, gq, reduceCtorEq, reduceEqDiff, reduceLT, reduceLeDiff, reduceAdd, reduceMul, reduceSub, Nat.reduceBEq, Int.reduceToNat, Int.reduceLE, Int.reduceLT, Int.reduceNeg, reduceMod, sid_ne1, sid_ne2, sid_inj, sid_mod, gT, TK.isInt, TK.agg, Array.toList, e0, elo]
    exact ⟨_, i2, g2, _, cx_made hn _ _, .one (.ag (.cons (.im _) (.cons (.fr (by simp (maxSteps:=5000000) -dsimp only [gr, reduceEqDiff, reduceLT, reduceAdd, reduceMod, Nat.reduceBEq, sid_mod, sid_ne1, sid_ne2, sid_inj] <;> rfl) (by decide)) .nil))), by simp, by simp (maxSteps:=5000000) -dsimp only [gr, reduceEqDiff, reduceLT, reduceAdd, reduceMod, Nat.reduceBEq, sid_mod, sid_ne1, sid_ne2, sid_inj] <;> rfl, by simp (maxSteps:=5000000) -dsimp only [gr, reduceEqDiff, reduceLT, reduceAdd, reduceMod, Nat.reduceBEq, sid_mod, sid_ne1, sid_ne2, sid_inj, e1]⟩
  · refine askCur_of (c_spec_l1Pick bs hbs dxL (by decide) (by decide)) (.some (j := 25) (by simp (maxSteps:=5000000) -dsimp only [gr, reduceEqDiff, reduceLT, reduceAdd, reduceMod, Nat.reduceBEq, sid_mod, sid_ne1, sid_ne2, sid_inj, elo] <;> rfl) (plain_sL _)) (by simp (maxSteps:=5000000) -dsimp only [gr, reduceEqDiff, reduceLT, reduceAdd, reduceMod, Nat.reduceBEq, sid_mod, sid_ne1, sid_ne2, sid_inj, e0] <;> rfl) (.one (gv_cur (by simp (maxSteps:=5000000) -dsimp only [gr, reduceEqDiff, reduceLT, reduceAdd, reduceMod, Nat.reduceBEq, sid_mod, sid_ne1, sid_ne2, sid_inj, e0] <;> rfl)) (.one (gv_list (by simp (maxSteps:=5000000) -dsimp only [gr, reduceEqDiff, reduceLT, reduceAdd, reduceMod, Nat.reduceBEq, sid_mod, sid_ne1, sid_ne2, sid_inj, elo])) .nil)) rfl (fun j hj => by cases hj; exact ⟨rfl, rfl⟩) fun rv i3 g3 ⟨t, hrv, ht⟩ => ?_
    subst hrv
    obtain ⟨m, rest, ps, hok, hm, hps⟩ := dxL_ok ht
    simp (maxSteps:=5000000) -dsimp only [↓gp, gq, reduceCtorEq, reduceEqDiff, reduceLT, reduceLeDiff, reduceAdd, reduceMul, reduceSub, Nat.reduceBEq, Int.reduceToNat, Int.reduceLE, Int.reduceLT, Int.reduceNeg, reduceMod, sid_ne1, sid_ne2, sid_inj, sid_mod, gT, TK.isInt, TK.agg, Array.toList, hs, e0, elo]
    refine askK_of (c_spec_ParseComplex hok) ?_
    simp (maxSteps:=5000000) -dsimp only [↓gp, gq, reduceCtorEq, reduceEqDiff, reduceLT, reduceLeDiff, reduceAdd, reduceMul, reduceSub, Nat.reduceBEq, Int.reduceToNat, Int.reduceLE, Int.reduceLT, Int.reduceNeg, reduceMod, sid_ne1, sid_ne2, sid_inj, sid_mod, gT, TK.isInt, TK.agg, Array.toList, e0, elo]
    exact ⟨_, i3, g3, _, cx_parsed hm hps, .one (.ag (.cons (.im _) (.cons (.fr (by simp (maxSteps:=5000000) -dsimp only [gr, reduceEqDiff, reduceLT, reduceAdd, reduceMod, Nat.reduceBEq, sid_mod, sid_ne1, sid_ne2, sid_inj] <;> rfl) (by decide)) .nil))), by simp, by simp (maxSteps:=5000000) -dsimp only [gr, reduceEqDiff, reduceLT, reduceAdd, reduceMod, Nat.reduceBEq, sid_mod, sid_ne1, sid_ne2, sid_inj] <;> rfl, by simp (maxSteps:=5000000) -dsimp only [gr, reduceEqDiff, reduceLT, reduceAdd, reduceMod, Nat.reduceBEq, sid_mod, sid_ne1, sid_ne2, sid_inj, e1]⟩
  · have hP : ∀ (S : St) (K : St → Prop) (u1 : Dm S) (u2 : Dm K) (lents : List PV) (Ka : RV → Prop) (d : Nat) (g : FuncId), ACur Tryz.prog g TC bs ⟨0, .dead⟩ [int n] (kcx cxQ) → S.rw 1000000 = ⟨1, .box TC [.sl false 1 (kL .u8 bs), int i2, int g2]⟩ → (d % 1000 == 0) = false →
        (∀ (j : Nat) (y m : Int) (xs : List Int), cxQ m xs → K (adoptSt (S.row 1000000 ⟨1, .box TC [.sl false 1 (kL .u8 bs), int j, int y]⟩) d (.ag [.im (int m), .fr 3 1 (iL xs)]))) → askK Tryz.prog g lents Ka (askR Tryz.prog g lents [.ref 1000000 1 0, int n] (some d) (kk S u1) (kk K u2)) := fun S K u1 u2 lents Ka d g hg hS hd hK =>
      askCur_of hg .none hS (GvL.one (gv_cur (by rw [hS])) (by repeat (first | exact GvL.nil | refine GvL.one (GvA.v _) ?_ | refine GvL.one (GvA.sl _ _ _) ?_))) hd (fun _ h => by cases h) fun rv i3 g3 ⟨m, xs, hrv, hq⟩ => by subst hrv; exact hK i3 g3 m xs hq
    have hp := c_spec_l3Pure bs hbs n hn1 hn
    have hz := c_spec_l3Size bs hbs n hn1 hn
    refine ⟨fun h2 => ⟨fun h3 => hP _ _ _ _ _ _ _ _ hp (by simp (maxSteps:=5000000) -dsimp only [gr, reduceEqDiff, reduceLT, reduceAdd, reduceMod, Nat.reduceBEq, sid_mod, sid_ne1, sid_ne2, sid_inj]) rfl fun i3 g3 m xs hq => ?_, fun h3 => hP _ _ _ _ _ _ _ _ hz (by simp (maxSteps:=5000000) -dsimp only [gr, reduceEqDiff, reduceLT, reduceAdd, reduceMod, Nat.reduceBEq, sid_mod, sid_ne1, sid_ne2, sid_inj]) rfl fun i3 g3 m xs hq => ?_⟩, fun h2 => ⟨fun h3 => hP _ _ _ _ _ _ _ _ hp (by simp (maxSteps:=5000000) -dsimp only [gr, reduceEqDiff, reduceLT, reduceAdd, reduceMod, Nat.reduceBEq, sid_mod, sid_ne1, sid_ne2, sid_inj]) rfl fun i3 g3 m xs hq => ?_, fun h3 => hP _ _ _ _ _ _ _ _ hz (by simp (maxSteps:=5000000) -dsimp only [gr, reduceEqDiff, reduceLT, reduceAdd, reduceMod, Nat.reduceBEq, sid_mod, sid_ne1, sid_ne2, sid_inj]) rfl fun i3 g3 m xs hq => ?_⟩⟩
    all_goals
      simp (maxSteps:=5000000) -dsimp only [↓gp, gq, reduceCtorEq, reduceEqDiff, reduceLT, reduceLeDiff, reduceAdd, reduceMul, reduceSub, Nat.reduceBEq, Int.reduceToNat, Int.reduceLE, Int.reduceLT, Int.reduceNeg, reduceMod, sid_ne1, sid_ne2, sid_inj, sid_mod, gT, TK.isInt, TK.agg, Array.toList, e0, elo]
      exact ⟨_, i3, g3, _, ⟨_, _, rfl, hq⟩, .one (.ag (.cons (.im _) (.cons (.fr (by simp (maxSteps:=5000000) -dsimp only [gr, reduceEqDiff, reduceLT, reduceAdd, reduceMod, Nat.reduceBEq, sid_mod, sid_ne1, sid_ne2, sid_inj] <;> rfl) (by decide)) .nil))), by simp, by simp (maxSteps:=5000000) -dsimp only [gr, reduceEqDiff, reduceLT, reduceAdd, reduceMod, Nat.reduceBEq, sid_mod, sid_ne1, sid_ne2, sid_inj] <;> rfl, by simp (maxSteps:=5000000) -dsimp only [gr, reduceEqDiff, reduceLT, reduceAdd, reduceMod, Nat.reduceBEq, sid_mod, sid_ne1, sid_ne2, sid_inj, e1]⟩
theorem c_spec_l3Bent (bs : List Int) (hbs : bs.length ≤ 9223372036854775806) : ACur Tryz.prog 88 TC bs ⟨0, .dead⟩ [] (kcx fun n xs => 0 ≤ n ∧ n ≤ 7 ∧ xs.length ≤ 450) := by
  intro i h
  refine AG.go (rs := [.cell 2 27]) T_ok mixed Tryz.func88 rfl rfl rfl (by kernel_rfl) fun hl _ s hs hR => ?_
  have e0 : s.rw 1000000 = ⟨1, .box TC [.sl false 1 (kL .u8 bs), int i, int h]⟩ := by rw [hR]; rfl
  have e1 : s.rw 1000500 = ⟨0, .dead⟩ := by rw [hR]; rfl
  have elo : ∀ k, k < 1000000 → s.rw k = ⟨0, .dead⟩ := fun k hk => by rw [hR]; exact curR_lo hk
  simp (maxSteps:=5000000) -dsimp only [↓gp, gq, reduceCtorEq, reduceEqDiff, reduceLT, reduceLeDiff, reduceAdd, reduceMul, reduceSub, Nat.reduceBEq, Int.reduceToNat, Int.reduceLE, Int.reduceLT, Int.reduceNeg, reduceMod, sid_ne1, sid_ne2, sid_inj, sid_mod, gT, TK.isInt, TK.agg, Array.toList, hs, e0, elo]
  refine askCur_of (c_spec_l3Draw bs hbs) .none (by simp (maxSteps:=5000000) -dsimp only [gr, reduceEqDiff, reduceLT, reduceAdd, reduceMod, Nat.reduceBEq, sid_mod, sid_ne1, sid_ne2, sid_inj, e0, elo] <;> rfl) (GvL.one (gv_cur (by simp (maxSteps:=5000000) -dsimp only [gr, reduceEqDiff, reduceLT, reduceAdd, reduceMod, Nat.reduceBEq, sid_mod, sid_ne1, sid_ne2, sid_inj, e0, elo] <;> rfl)) (by repeat (first | exact GvL.nil | refine GvL.one (GvA.v _) ?_ | refine GvL.one (GvA.sl _ _ _) ?_))) rfl (fun _ h => by cases h) fun rv i1 g1 ⟨n, xs, hrv, hq⟩ => ?_
  subst hrv
  obtain ⟨hn0, hn7, hxl⟩ := hq
  simp (maxSteps:=5000000) -dsimp only [↓gp, gq, reduceCtorEq, reduceEqDiff, reduceLT, reduceLeDiff, reduceAdd, reduceMul, reduceSub, Nat.reduceBEq, Int.reduceToNat, Int.reduceLE, Int.reduceLT, Int.reduceNeg, reduceMod, sid_ne1, sid_ne2, sid_inj, sid_mod, gT, TK.isInt, TK.agg, Array.toList, hs, e0, elo]
  refine askCur_of (c_spec_l1Below bs hbs 14 (by decide)) .none (by simp (maxSteps:=5000000) -dsimp only [gr, reduceEqDiff, reduceLT, reduceAdd, reduceMod, Nat.reduceBEq, sid_mod, sid_ne1, sid_ne2, sid_inj, e0, elo] <;> rfl) (GvL.one (gv_cur (by simp (maxSteps:=5000000) -dsimp only [gr, reduceEqDiff, reduceLT, reduceAdd, reduceMod, Nat.reduceBEq, sid_mod, sid_ne1, sid_ne2, sid_inj, e0, elo] <;> rfl)) (by repeat (first | exact GvL.nil | refine GvL.one (GvA.v _) ?_ | refine GvL.one (GvA.sl _ _ _) ?_))) rfl (fun _ h => by cases h) fun rv i2 g2 ⟨x, hrv, hx⟩ => ?_
  subst hrv
  simp (maxSteps:=5000000) -dsimp only [↓gp, gq, reduceCtorEq, reduceEqDiff, reduceLT, reduceLeDiff, reduceAdd, reduceMul, reduceSub, Nat.reduceBEq, Int.reduceToNat, Int.reduceLE, Int.reduceLT, Int.reduceNeg, reduceMod, sid_ne1, sid_ne2, sid_inj, sid_mod, gT, TK.isInt, TK.agg, Array.toList, hs, e0, elo]
  refine ⟨fun h0 => ?_, fun h0 => ⟨fun h1 => ?_, fun h1 => ?_⟩⟩
  · refine askCur_of (c_spec_l1PickInt bs hbs [0, 7, 2] (by decide) (by decide)) (.some (j := 11) (by simp (maxSteps:=5000000) -dsimp only [gr, reduceEqDiff, reduceLT, reduceAdd, reduceMod, Nat.reduceBEq, sid_mod, sid_ne1, sid_ne2, sid_inj, elo] <;> rfl) (plain_iL _)) (by simp (maxSteps:=5000000) -dsimp only [gr, reduceEqDiff, reduceLT, reduceAdd, reduceMod, Nat.reduceBEq, sid_mod, sid_ne1, sid_ne2, sid_inj, e0] <;> rfl) (.one (gv_cur (by simp (maxSteps:=5000000) -dsimp only [gr, reduceEqDiff, reduceLT, reduceAdd, reduceMod, Nat.reduceBEq, sid_mod, sid_ne1, sid_ne2, sid_inj, e0] <;> rfl)) (.one (gv_list (by simp (maxSteps:=5000000) -dsimp only [gr, reduceEqDiff, reduceLT, reduceAdd, reduceMod, Nat.reduceBEq, sid_mod, sid_ne1, sid_ne2, sid_inj, elo])) .nil)) rfl (fun j hj => by cases hj; exact ⟨rfl, rfl⟩) fun rv i3 g3 ⟨m, hrv, hc⟩ => ?_
    subst hrv
    have hm : 0 ≤ m ∧ m ≤ 7 := by
      have hc : m ∈ [0, 7, 2] := hc
      simp at hc; omega
    simp (maxSteps:=5000000) -dsimp only [↓gp, gq, reduceCtorEq, reduceEqDiff, reduceLT, reduceLeDiff, reduceAdd, reduceMul, reduceSub, Nat.reduceBEq, Int.reduceToNat, Int.reduceLE, Int.reduceLT, Int.reduceNeg, reduceMod, sid_ne1, sid_ne2, sid_inj, sid_mod, gT, TK.isInt, TK.agg, Array.toList, e0, elo]
    exact ⟨_, i3, g3, _, ⟨m, xs, rfl, hm.1, hm.2, by omega⟩, .one (.ag (.cons (.im _) (.cons (.fr (by simp (maxSteps:=5000000) -dsimp only [gr, reduceEqDiff, reduceLT, reduceAdd, reduceMod, Nat.reduceBEq, sid_mod, sid_ne1, sid_ne2, sid_inj] <;> rfl) (by decide)) .nil))), by simp, by simp (maxSteps:=5000000) -dsimp only [gr, reduceEqDiff, reduceLT, reduceAdd, reduceMod, Nat.reduceBEq, sid_mod, sid_ne1, sid_ne2, sid_inj] <;> rfl, by simp (maxSteps:=5000000) -dsimp only [gr, reduceEqDiff, reduceLT, reduceAdd, reduceMod, Nat.reduceBEq, sid_mod, sid_ne1, sid_ne2, sid_inj, e1]⟩
  · refine ⟨by kernel_rfl, askDCur_of (c_spec_l1BelowF bs hbs 66 (by decide)) (plain_int _) (i := i2) (h := g2) (by simp (maxSteps:=5000000) -dsimp only [gr, reduceEqDiff, reduceLT, reduceAdd, reduceMod, Nat.reduceBEq, sid_mod, sid_ne1, sid_ne2, sid_inj] <;> rfl) rfl ?_⟩
    obtain ⟨y, j3, g3, hr, hy⟩ := beF_at bs 66 i2 g2
    rw [hr]
    have hy66 : 0 ≤ y ∧ y < 66 := by obtain ⟨a, b⟩ := hy; omega
    have hw : IntKind.i64.wrap (y - 1) = y - 1 := wrap_id (by omega) (by omega)
    simp (maxSteps:=5000000) -dsimp only [↓gp, gq, reduceCtorEq, reduceEqDiff, reduceLT, reduceLeDiff, reduceAdd, reduceMul, reduceSub, Nat.reduceBEq, Int.reduceToNat, Int.reduceLE, Int.reduceLT, Int.reduceNeg, reduceMod, sid_ne1, sid_ne2, sid_inj, sid_mod, gT, TK.isInt, TK.agg, Array.toList, e0, elo, hw]
    refine ⟨by omega, by kernel_rfl, ?_⟩
    exact ⟨_, j3, g3, _, ⟨n, xs ++ [y - 1], rfl, hn0, hn7, by simp; omega⟩, .one (.ag (.cons (.im _) (.cons (.fr (by simp (maxSteps:=5000000) -dsimp only [gr, reduceEqDiff, reduceLT, reduceAdd, reduceMod, Nat.reduceBEq, sid_mod, sid_ne1, sid_ne2, sid_inj] <;> rfl) (by decide)) .nil))), by simp, by simp (maxSteps:=5000000) -dsimp only [gr, reduceEqDiff, reduceLT, reduceAdd, reduceMod, Nat.reduceBEq, sid_mod, sid_ne1, sid_ne2, sid_inj] <;> rfl, by simp (maxSteps:=5000000) -dsimp only [gr, reduceEqDiff, reduceLT, reduceAdd, reduceMod, Nat.reduceBEq, sid_mod, sid_ne1, sid_ne2, sid_inj, e1]⟩
  · exact ⟨_, i2, g2, _, ⟨n, xs, rfl, hn0, hn7, by omega⟩, .one (.ag (.cons (.im _) (.cons (.fr (by simp (maxSteps:=5000000) -dsimp only [gr, reduceEqDiff, reduceLT, reduceAdd, reduceMod, Nat.reduceBEq, sid_mod, sid_ne1, sid_ne2, sid_inj] <;> rfl) (by decide)) .nil))), by simp, by simp (maxSteps:=5000000) -dsimp only [gr, reduceEqDiff, reduceLT, reduceAdd, reduceMod, Nat.reduceBEq, sid_mod, sid_ne1, sid_ne2, sid_inj] <;> rfl, by simp (maxSteps:=5000000) -dsimp only [gr, reduceEqDiff, reduceLT, reduceAdd, reduceMod, Nat.reduceBEq, sid_mod, sid_ne1, sid_ne2, sid_inj, e1]⟩
end Go.Proofs.YtpnknaaehcljoaaGreat
