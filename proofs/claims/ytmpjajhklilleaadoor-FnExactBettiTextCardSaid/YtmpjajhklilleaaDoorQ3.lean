/- DERIVED by an AI agent. -/
import Derived.Test.YtmpjajhklilleaaDoorQ2
namespace Go.Proofs.YtmpjajhklilleaaDoor
open Go.Abs
set_option linter.unusedSimpArgs false
set_option linter.unusedVariables false

theorem mul_small {a b p : Int} (h1 : 0 ≤ a ∧ a < p) (h2 : 0 ≤ b ∧ b ≤ 5) (hp : p ≤ 5) : 0 ≤ a * b ∧ a * b ≤ 25 := by
  refine ⟨Int.mul_nonneg h1.1 h2.1, ?_⟩
  have := Int.mul_le_mul (show a ≤ 5 by omega) h2.2 h2.1 (by omega)
  omega
theorem prt_same (l : List Int) (j : Nat) : prt l l j = l := by simp [prt]
theorem c_spec_l13Clear (M : Mat) (n a c : Nat) (p : Int) (hp : isP p = true) (hM : MatOk p n M) (ha : a < M.length) (hc : c < n) (hn : n ≤ 1000) : AT Tryd.prog 100 [.own 1000000 1, int a, int c, int p] 22 3 (M.map iL) ((clearM p a c M).map iL) .self := by
  refine AT.goI (rs := [.tmp 8]) T_ok mixed Tryd.func100 rfl rfl rfl (by kernel_rfl) (clearM_length p a c M) fun hl s hs hlow ht => ?_
  have hp2 := isP_pos hp
  have hlen := hM.len a ha
  have hres := hM.res a ha
  have hac := hres c
  have hra := ht.row ha
  have hq : ∀ i, i < M.length → (List.range M.length).getD i 0 = i := fun i hi => by simp [List.getD, hi]
  rw [hq a ha] at hra
  simp (maxSteps := 5000000) -dsimp only [↓gp, gq, reduceCtorEq, Nat.reduceEqDiff, Nat.reduceLT, Nat.reduceLeDiff, Nat.reduceAdd, Nat.reduceMul, Nat.reduceSub, Nat.reduceBEq, Int.reduceToNat, Int.reduceLE, Int.reduceLT, Int.reduceNeg, Nat.reduceMod, sid_ne1, sid_ne2, sid_inj, sid_mod, gT, TK.isInt, TK.agg, Array.toList, hs, hlow, ht.top, hra, hq a ha]
  refine ⟨ha, ha, by omega, by omega, askK_of (c_spec_InverseMod _ p hp) ?_⟩
  generalize hb : invM p ((M.getD a []).getD c 0) = b at *
  have hbb := invM_le hp ((M.getD a []).getD c 0)
  rw [hb] at hbb
  simp (maxSteps := 5000000) -dsimp only [↓gp, gq, reduceCtorEq, Nat.reduceEqDiff, Nat.reduceLT, Nat.reduceLeDiff, Nat.reduceAdd, Nat.reduceMul, Nat.reduceSub, Nat.reduceBEq, Int.reduceToNat, Int.reduceLE, Int.reduceLT, Int.reduceNeg, Nat.reduceMod, sid_ne1, sid_ne2, sid_inj, sid_mod, gT, TK.isInt, TK.agg, Array.toList, hs, hlow]
  generalize hold : M.getD a [] = old at *
  refine loop_of (fun (j : Nat) s => s.sl 0 = .own 1000000 1 ∧ s.sl 1 = int a ∧ s.sl 2 = int c ∧ s.sl 3 = int p ∧ s.sl 9 = int b ∧ s.sl 10 = int j ∧ (j ≤ n ∧ TabI s.rw 1000000 1 22 3 (List.range M.length) (M.set a (prt (scl p b old) old j)))) (fun j => n - j) (0) (by refine ⟨?_, ?_, ?_, ?_, ?_, ?_, ⟨by omega, by rw [prt_zero, ← hold, set_self_getD]; exact ht.same (by simp (maxSteps := 5000000) -dsimp only [gr, Nat.reduceEqDiff, Nat.reduceLT, Nat.reduceAdd, Nat.reduceMod, Nat.reduceBEq, sid_mod, sid_ne1, sid_ne2, sid_inj]) (fun x => by simp (maxSteps := 5000000) -dsimp only [gr, Nat.reduceEqDiff, Nat.reduceLT, Nat.reduceAdd, Nat.reduceMod, Nat.reduceBEq, sid_mod, sid_ne1, sid_ne2, sid_inj])⟩⟩ <;> (first | (simp (maxSteps := 5000000) -dsimp only [gr, Nat.reduceEqDiff, Nat.reduceLT, Nat.reduceAdd, Nat.reduceMod, Nat.reduceBEq, sid_mod, sid_ne1, sid_ne2, sid_inj, hs]; first | done | rfl | (simp; done)) | assumption | rfl)) ?_
  intro j sa ⟨h0a, h1a, h2a, h3a, h9a, h10a, hIa⟩
  obtain ⟨hj, ht1⟩ := hIa
  have hset : a < (M.set a (prt (scl p b old) old j)).length := by simpa using ha
  have hr1 := ht1.row hset
  have hpl : (prt (scl p b old) old j).length = n := by rw [prt_length (scl_length p b old)]; exact hlen
  rw [getM_set_self ha, hq a ha] at hr1
  have hpj := prt_getD (scl_length p b old) (Nat.le_refl j)
  have hoj := hres j
  have hmb := mul_small hoj ⟨hbb.1, by omega⟩ hp2.2
  have hw : IntKind.i64.wrap (old.getD j 0 * b) = old.getD j 0 * b := wrap_id (by omega) (by omega)
  simp (maxSteps := 5000000) -dsimp only [↓gp, gq, reduceCtorEq, Nat.reduceEqDiff, Nat.reduceLT, Nat.reduceLeDiff, Nat.reduceAdd, Nat.reduceMul, Nat.reduceSub, Nat.reduceBEq, Int.reduceToNat, Int.reduceLE, Int.reduceLT, Int.reduceNeg, Nat.reduceMod, sid_ne1, sid_ne2, sid_inj, sid_mod, gT, TK.isInt, TK.agg, Array.toList, h0a, h1a, h2a, h3a, h9a, h10a, ht1.top, hr1, hq a ha, hpl, hpj, hw, tmod_nn hmb.1]
  refine ⟨ha, ha, fun h => ⟨by kernel_rfl, ha, ha, ha, ha, h, h, by omega, h, by omega, by kernel_rfl, ?_⟩, fun h => ?_⟩
  · refine again_of (j + 1) ⟨(by (first | (simp (maxSteps := 5000000) -dsimp only [gr, Nat.reduceEqDiff, Nat.reduceLT, Nat.reduceAdd, Nat.reduceMod, Nat.reduceBEq, sid_mod, sid_ne1, sid_ne2, sid_inj, h0a, h1a, h2a, h3a, h9a, h10a, wrap_nat h (by omega)]; first | done | rfl | (simp; done)) | assumption | rfl)), (by (first | (simp (maxSteps := 5000000) -dsimp only [gr, Nat.reduceEqDiff, Nat.reduceLT, Nat.reduceAdd, Nat.reduceMod, Nat.reduceBEq, sid_mod, sid_ne1, sid_ne2, sid_inj, h0a, h1a, h2a, h3a, h9a, h10a, wrap_nat h (by omega)]; first | done | rfl | (simp; done)) | assumption | rfl)), (by (first | (simp (maxSteps := 5000000) -dsimp only [gr, Nat.reduceEqDiff, Nat.reduceLT, Nat.reduceAdd, Nat.reduceMod, Nat.reduceBEq, sid_mod, sid_ne1, sid_ne2, sid_inj, h0a, h1a, h2a, h3a, h9a, h10a, wrap_nat h (by omega)]; first | done | rfl | (simp; done)) | assumption | rfl)), (by (first | (simp (maxSteps := 5000000) -dsimp only [gr, Nat.reduceEqDiff, Nat.reduceLT, Nat.reduceAdd, Nat.reduceMod, Nat.reduceBEq, sid_mod, sid_ne1, sid_ne2, sid_inj, h0a, h1a, h2a, h3a, h9a, h10a, wrap_nat h (by omega)]; first | done | rfl | (simp; done)) | assumption | rfl)), (by (first | (simp (maxSteps := 5000000) -dsimp only [gr, Nat.reduceEqDiff, Nat.reduceLT, Nat.reduceAdd, Nat.reduceMod, Nat.reduceBEq, sid_mod, sid_ne1, sid_ne2, sid_inj, h0a, h1a, h2a, h3a, h9a, h10a, wrap_nat h (by omega)]; first | done | rfl | (simp; done)) | assumption | rfl)), (by (first | (simp (maxSteps := 5000000) -dsimp only [gr, Nat.reduceEqDiff, Nat.reduceLT, Nat.reduceAdd, Nat.reduceMod, Nat.reduceBEq, sid_mod, sid_ne1, sid_ne2, sid_inj, h0a, h1a, h2a, h3a, h9a, h10a, wrap_nat h (by omega)]; first | done | rfl | (simp; done)) | assumption | rfl)), ⟨by omega, ?_⟩⟩ (by first | omega | (simp only; omega) | (dsimp only; omega) | (show _ < _; simp; omega))
    have e : M.set a (prt (scl p b old) old (j + 1)) = (M.set a (prt (scl p b old) old j)).set a ((prt (scl p b old) old j).set j (old.getD j 0 * b % p)) := by
      rw [set_set, ← prt_set (scl_length p b old) (by omega), scl_getD p b (by omega)]
    rw [e]
    refine ht1.set hset (by simp (maxSteps := 5000000) -dsimp only [gr, Nat.reduceEqDiff, Nat.reduceLT, Nat.reduceAdd, Nat.reduceMod, Nat.reduceBEq, sid_mod, sid_ne1, sid_ne2, sid_inj, h0a, h1a, h2a, h3a, h9a, h10a]) ?_ (fun x hx => ?_)
    · rw [hq a ha]; simp (maxSteps := 5000000) -dsimp only [gr, Nat.reduceEqDiff, Nat.reduceLT, Nat.reduceAdd, Nat.reduceMod, Nat.reduceBEq, sid_mod, sid_ne1, sid_ne2, sid_inj, h0a, h1a, h2a, h3a, h9a, h10a]
    · rw [hq a ha] at hx
      simp (maxSteps := 5000000) -dsimp only [gr, Nat.reduceEqDiff, Nat.reduceLT, Nat.reduceAdd, Nat.reduceMod, Nat.reduceBEq, sid_mod, sid_ne1, sid_ne2, sid_inj, h0a, h1a, h2a, h3a, h9a, h10a, hx]
  have : j = n := by omega
  subst this
  have hend : prt (scl p b old) old j = scl p b old := by rw [← hlen]; exact prt_end (scl_length p b old)
  rw [hend] at ht1
  have hclr : M.set a (scl p b old) = clr1 p a c M := by unfold clr1; rw [hold, hb]
  rw [hclr] at ht1
  have hM1 := clr1_ok (p := p) (n := j) (at' := a) (col := c) (by omega) hM ha
  have hl1 : (clr1 p a c M).length = M.length := clr1_length p a c M
  have hgoal : clearM p a c M = clrN p a c (clr1 p a c M) M.length := rfl
  rw [hgoal]
  generalize clr1 p a c M = M1 at *
  refine loop_of (fun (i : Nat) s => s.sl 0 = .own 1000000 1 ∧ s.sl 1 = int a ∧ s.sl 2 = int c ∧ s.sl 3 = int p ∧ s.sl 11 = int i ∧ (i ≤ M.length ∧ TabI s.rw 1000000 1 22 3 (List.range M.length) (clrN p a c M1 i))) (fun i => M.length - i) (0) (by refine ⟨?_, ?_, ?_, ?_, ?_, ⟨by omega, by rw [clrN_zero]; exact ht1.same (by simp (maxSteps := 5000000) -dsimp only [gr, Nat.reduceEqDiff, Nat.reduceLT, Nat.reduceAdd, Nat.reduceMod, Nat.reduceBEq, sid_mod, sid_ne1, sid_ne2, sid_inj]) (fun x => by simp (maxSteps := 5000000) -dsimp only [gr, Nat.reduceEqDiff, Nat.reduceLT, Nat.reduceAdd, Nat.reduceMod, Nat.reduceBEq, sid_mod, sid_ne1, sid_ne2, sid_inj])⟩⟩ <;> (first | (simp (maxSteps := 5000000) -dsimp only [gr, Nat.reduceEqDiff, Nat.reduceLT, Nat.reduceAdd, Nat.reduceMod, Nat.reduceBEq, sid_mod, sid_ne1, sid_ne2, sid_inj, h0a, h1a, h2a, h3a, h9a, h10a]; first | done | rfl | (simp; done)) | assumption | rfl)) ?_
  intro i sb ⟨h0b, h1b, h2b, h3b, h11b, hIb⟩
  obtain ⟨hi, ht2⟩ := hIb
  have hlN : (clrN p a c M1 i).length = M.length := by rw [clrN_length, hl1]
  simp (maxSteps := 5000000) -dsimp only [↓gp, gq, reduceCtorEq, Nat.reduceEqDiff, Nat.reduceLT, Nat.reduceLeDiff, Nat.reduceAdd, Nat.reduceMul, Nat.reduceSub, Nat.reduceBEq, Int.reduceToNat, Int.reduceLE, Int.reduceLT, Int.reduceNeg, Nat.reduceMod, sid_ne1, sid_ne2, sid_inj, sid_mod, gT, TK.isInt, TK.agg, Array.toList, h0b, h1b, h2b, h3b, h11b, ht2.top]
  refine ⟨fun h => ?_, fun h => ?_⟩
  · have hi1 : i < M1.length := by omega
    have hr2 := ht2.row (i := i) (by omega)
    rw [clrN_ge p a c hi1 (Nat.le_refl i), hq i h] at hr2
    have hl2 := hM1.len i hi1
    have hres2 := hM1.res i hi1
    generalize hold2 : M1.getD i [] = old2 at *
    simp (maxSteps := 5000000) -dsimp only [↓gp, gq, reduceCtorEq, Nat.reduceEqDiff, Nat.reduceLT, Nat.reduceLeDiff, Nat.reduceAdd, Nat.reduceMul, Nat.reduceSub, Nat.reduceBEq, Int.reduceToNat, Int.reduceLE, Int.reduceLT, Int.reduceNeg, Nat.reduceMod, sid_ne1, sid_ne2, sid_inj, sid_mod, gT, TK.isInt, TK.agg, Array.toList, h0b, h1b, h2b, h3b, h11b, ht2.top, hr2, hq i h]
    refine ⟨h, h, by omega, by omega, ?_⟩
    have hf := hres2 c
    generalize hfe : old2.getD c 0 = f at *
    have hra1 : a < M1.length := by omega
    have hnew : (clrI p a c M1 i).length = old2.length := by
      rw [(clrI_ok (p := p) (by omega) hM1 hi1).1, hl2]
    refine loop_of (fun (t : Nat) s => s.sl 0 = .own 1000000 1 ∧ s.sl 1 = int a ∧ s.sl 2 = int c ∧ s.sl 3 = int p ∧ s.sl 11 = int i ∧ s.sl 12 = int f ∧ s.sl 13 = int t ∧ (t ≤ old2.length ∧ TabI s.rw 1000000 1 22 3 (List.range M.length) ((clrN p a c M1 i).set i (prt (clrI p a c M1 i) old2 t)))) (fun t => old2.length - t) (0) (by refine ⟨?_, ?_, ?_, ?_, ?_, ?_, ?_, ⟨by omega, (ht2.same (by simp (maxSteps := 5000000) -dsimp only [gr, Nat.reduceEqDiff, Nat.reduceLT, Nat.reduceAdd, Nat.reduceMod, Nat.reduceBEq, sid_mod, sid_ne1, sid_ne2, sid_inj]) (fun x => by simp (maxSteps := 5000000) -dsimp only [gr, Nat.reduceEqDiff, Nat.reduceLT, Nat.reduceAdd, Nat.reduceMod, Nat.reduceBEq, sid_mod, sid_ne1, sid_ne2, sid_inj])).to (by rw [prt_zero, ← hold2, ← clrN_ge p a c hi1 (Nat.le_refl i), set_self_getD])⟩⟩ <;> (first | (simp (maxSteps := 5000000) -dsimp only [gr, Nat.reduceEqDiff, Nat.reduceLT, Nat.reduceAdd, Nat.reduceMod, Nat.reduceBEq, sid_mod, sid_ne1, sid_ne2, sid_inj, h0b, h1b, h2b, h3b, h11b]; first | done | rfl | (simp; done)) | assumption | rfl)) ?_
    intro t sc ⟨h0c, h1c, h2c, h3c, h11c, h12c, h13c, hIc⟩
    obtain ⟨ht', ht3⟩ := hIc
    have hls : ((clrN p a c M1 i).set i (prt (clrI p a c M1 i) old2 t)).length = M.length := by rw [List.length_set, hlN]
    have hr3 := ht3.row (i := i) (by omega)
    rw [getM_set_self (by omega), hq i h] at hr3
    have hpl3 : (prt (clrI p a c M1 i) old2 t).length = old2.length := prt_length hnew t
    have hpj3 := prt_getD hnew (Nat.le_refl t)
    simp (maxSteps := 5000000) -dsimp only [↓gp, gq, reduceCtorEq, Nat.reduceEqDiff, Nat.reduceLT, Nat.reduceLeDiff, Nat.reduceAdd, Nat.reduceMul, Nat.reduceSub, Nat.reduceBEq, Int.reduceToNat, Int.reduceLE, Int.reduceLT, Int.reduceNeg, Nat.reduceMod, sid_ne1, sid_ne2, sid_inj, sid_mod, gT, TK.isInt, TK.agg, Array.toList, h0c, h1c, h2c, h3c, h11c, h12c, h13c, ht3.top, hr3, hq i h, hpl3]
    refine ⟨h, h, fun h2 => ⟨fun hne => ?_, fun heq => ?_⟩, fun h2 => ?_⟩
    · have hia : ¬ i = a := by
        intro e
        simp [e] at hne
      have hr4 := ht3.row (i := a) (by omega)
      rw [getM_set_ne hia, clrN_at p a c i hra1, hq a ha] at hr4
      have hla := hM1.len a hra1
      have hresa := hM1.res a hra1
      have hcI : clrI p a c M1 i = sbt p f (M1.getD a []) old2 := by unfold clrI; rw [if_neg hia, hold2, hfe]
      generalize hpiv : M1.getD a [] = piv at *
      have hft := mul_small hf ⟨(hresa t).1, by have := (hresa t).2; omega⟩ hp2.2
      have hot := hres2 t
      have hw3 : IntKind.i64.wrap (f * piv.getD t 0) = f * piv.getD t 0 := wrap_id (by omega) (by omega)
      have hw4 : IntKind.i64.wrap (old2.getD t 0 - f * piv.getD t 0) = old2.getD t 0 - f * piv.getD t 0 := wrap_id (by omega) (by omega)
      simp (maxSteps := 5000000) -dsimp only [↓gp, gq, reduceCtorEq, Nat.reduceEqDiff, Nat.reduceLT, Nat.reduceLeDiff, Nat.reduceAdd, Nat.reduceMul, Nat.reduceSub, Nat.reduceBEq, Int.reduceToNat, Int.reduceLE, Int.reduceLT, Int.reduceNeg, Nat.reduceMod, sid_ne1, sid_ne2, sid_inj, sid_mod, gT, TK.isInt, TK.agg, Array.toList, h0c, h1c, h2c, h3c, h11c, h12c, h13c, ht3.top, hr3, hq i h, hpl3, hr4, hq a ha, hpj3, hw3, hw4]
      refine ⟨by kernel_rfl, h, h, h, h, h2, h2, ha, ha, by omega, by omega, askK_of (c_spec_l13Mod _ p hp) ?_⟩
      simp (maxSteps := 5000000) -dsimp only [↓gp, gq, reduceCtorEq, Nat.reduceEqDiff, Nat.reduceLT, Nat.reduceLeDiff, Nat.reduceAdd, Nat.reduceMul, Nat.reduceSub, Nat.reduceBEq, Int.reduceToNat, Int.reduceLE, Int.reduceLT, Int.reduceNeg, Nat.reduceMod, sid_ne1, sid_ne2, sid_inj, sid_mod, gT, TK.isInt, TK.agg, Array.toList, h0c, h1c, h2c, h3c, h11c, h12c, h13c, ht3.top, hr3, hq i h, hpl3, hr4, hq a ha, hpj3, hw3, hw4]
      refine ⟨h2, by omega, by kernel_rfl, again_of (t + 1) ⟨(by (first | (simp (maxSteps := 5000000) -dsimp only [gr, Nat.reduceEqDiff, Nat.reduceLT, Nat.reduceAdd, Nat.reduceMod, Nat.reduceBEq, sid_mod, sid_ne1, sid_ne2, sid_inj, h0c, h1c, h2c, h3c, h11c, h12c, h13c, wrap_nat h2 (by omega)]; first | done | rfl | (simp; done)) | assumption | rfl)), (by (first | (simp (maxSteps := 5000000) -dsimp only [gr, Nat.reduceEqDiff, Nat.reduceLT, Nat.reduceAdd, Nat.reduceMod, Nat.reduceBEq, sid_mod, sid_ne1, sid_ne2, sid_inj, h0c, h1c, h2c, h3c, h11c, h12c, h13c, wrap_nat h2 (by omega)]; first | done | rfl | (simp; done)) | assumption | rfl)), (by (first | (simp (maxSteps := 5000000) -dsimp only [gr, Nat.reduceEqDiff, Nat.reduceLT, Nat.reduceAdd, Nat.reduceMod, Nat.reduceBEq, sid_mod, sid_ne1, sid_ne2, sid_inj, h0c, h1c, h2c, h3c, h11c, h12c, h13c, wrap_nat h2 (by omega)]; first | done | rfl | (simp; done)) | assumption | rfl)), (by (first | (simp (maxSteps := 5000000) -dsimp only [gr, Nat.reduceEqDiff, Nat.reduceLT, Nat.reduceAdd, Nat.reduceMod, Nat.reduceBEq, sid_mod, sid_ne1, sid_ne2, sid_inj, h0c, h1c, h2c, h3c, h11c, h12c, h13c, wrap_nat h2 (by omega)]; first | done | rfl | (simp; done)) | assumption | rfl)), (by (first | (simp (maxSteps := 5000000) -dsimp only [gr, Nat.reduceEqDiff, Nat.reduceLT, Nat.reduceAdd, Nat.reduceMod, Nat.reduceBEq, sid_mod, sid_ne1, sid_ne2, sid_inj, h0c, h1c, h2c, h3c, h11c, h12c, h13c, wrap_nat h2 (by omega)]; first | done | rfl | (simp; done)) | assumption | rfl)), (by (first | (simp (maxSteps := 5000000) -dsimp only [gr, Nat.reduceEqDiff, Nat.reduceLT, Nat.reduceAdd, Nat.reduceMod, Nat.reduceBEq, sid_mod, sid_ne1, sid_ne2, sid_inj, h0c, h1c, h2c, h3c, h11c, h12c, h13c, wrap_nat h2 (by omega)]; first | done | rfl | (simp; done)) | assumption | rfl)), (by (first | (simp (maxSteps := 5000000) -dsimp only [gr, Nat.reduceEqDiff, Nat.reduceLT, Nat.reduceAdd, Nat.reduceMod, Nat.reduceBEq, sid_mod, sid_ne1, sid_ne2, sid_inj, h0c, h1c, h2c, h3c, h11c, h12c, h13c, wrap_nat h2 (by omega)]; first | done | rfl | (simp; done)) | assumption | rfl)), ⟨by omega, ?_⟩⟩ (by first | omega | (simp only; omega) | (dsimp only; omega) | (show _ < _; simp; omega))⟩
      have e : (clrN p a c M1 i).set i (prt (clrI p a c M1 i) old2 (t + 1)) = ((clrN p a c M1 i).set i (prt (clrI p a c M1 i) old2 t)).set i ((prt (clrI p a c M1 i) old2 t).set t ((old2.getD t 0 - f * piv.getD t 0) % p)) := by
        rw [set_set, ← prt_set hnew h2, ← sbt_getD p f (piv := piv) h2, hcI]
      rw [e]
      refine ht3.set (by omega) (by simp (maxSteps := 5000000) -dsimp only [gr, Nat.reduceEqDiff, Nat.reduceLT, Nat.reduceAdd, Nat.reduceMod, Nat.reduceBEq, sid_mod, sid_ne1, sid_ne2, sid_inj, h0c, h1c, h2c, h3c, h11c, h12c, h13c]) ?_ (fun x hx => ?_)
      · rw [hq i h]; simp (maxSteps := 5000000) -dsimp only [gr, Nat.reduceEqDiff, Nat.reduceLT, Nat.reduceAdd, Nat.reduceMod, Nat.reduceBEq, sid_mod, sid_ne1, sid_ne2, sid_inj, h0c, h1c, h2c, h3c, h11c, h12c, h13c]
      · rw [hq i h] at hx
        simp (maxSteps := 5000000) -dsimp only [gr, Nat.reduceEqDiff, Nat.reduceLT, Nat.reduceAdd, Nat.reduceMod, Nat.reduceBEq, sid_mod, sid_ne1, sid_ne2, sid_inj, h0c, h1c, h2c, h3c, h11c, h12c, h13c, hx]
    · have hia : i = a := by
        have h9 : (i : Int) = a := by simpa using heq
        omega
      have hcI : clrI p a c M1 i = old2 := by unfold clrI; rw [if_pos hia, hold2]
      have ht4 := ht3
      rw [hcI, prt_same, ← hcI, clrN_succ p a c hi1] at ht4
      exact again_of (i + 1) (by refine ⟨?_, ?_, ?_, ?_, ?_, ⟨by omega, ht4.same (by simp (maxSteps := 5000000) -dsimp only [gr, Nat.reduceEqDiff, Nat.reduceLT, Nat.reduceAdd, Nat.reduceMod, Nat.reduceBEq, sid_mod, sid_ne1, sid_ne2, sid_inj]) (fun x => by simp (maxSteps := 5000000) -dsimp only [gr, Nat.reduceEqDiff, Nat.reduceLT, Nat.reduceAdd, Nat.reduceMod, Nat.reduceBEq, sid_mod, sid_ne1, sid_ne2, sid_inj])⟩⟩ <;> (first | (simp (maxSteps := 5000000) -dsimp only [gr, Nat.reduceEqDiff, Nat.reduceLT, Nat.reduceAdd, Nat.reduceMod, Nat.reduceBEq, sid_mod, sid_ne1, sid_ne2, sid_inj, h0b, h1b, h2b, h3b, h11b, h0c, h1c, h2c, h3c, h11c, h12c, h13c, wrap_nat h (by omega)]; first | done | rfl | (simp; done)) | assumption | rfl)) (by first | omega | (simp only; omega) | (dsimp only; omega) | (show _ < _; simp; omega))
    · have : t = old2.length := by omega
      have ht4 := ht3
      rw [this, prt_end hnew, clrN_succ p a c hi1] at ht4
      exact again_of (i + 1) (by refine ⟨?_, ?_, ?_, ?_, ?_, ⟨by omega, ht4.same (by simp (maxSteps := 5000000) -dsimp only [gr, Nat.reduceEqDiff, Nat.reduceLT, Nat.reduceAdd, Nat.reduceMod, Nat.reduceBEq, sid_mod, sid_ne1, sid_ne2, sid_inj]) (fun x => by simp (maxSteps := 5000000) -dsimp only [gr, Nat.reduceEqDiff, Nat.reduceLT, Nat.reduceAdd, Nat.reduceMod, Nat.reduceBEq, sid_mod, sid_ne1, sid_ne2, sid_inj])⟩⟩ <;> (first | (simp (maxSteps := 5000000) -dsimp only [gr, Nat.reduceEqDiff, Nat.reduceLT, Nat.reduceAdd, Nat.reduceMod, Nat.reduceBEq, sid_mod, sid_ne1, sid_ne2, sid_inj, h0b, h1b, h2b, h3b, h11b, h0c, h1c, h2c, h3c, h11c, h12c, h13c, wrap_nat h (by omega)]; first | done | rfl | (simp; done)) | assumption | rfl)) (by first | omega | (simp only; omega) | (dsimp only; omega) | (show _ < _; simp; omega))
  · have : i = M.length := by omega
    rw [this] at ht2
    exact tabEnd_of (ht2.same (by simp (maxSteps := 5000000) -dsimp only [gr, Nat.reduceEqDiff, Nat.reduceLT, Nat.reduceAdd, Nat.reduceMod, Nat.reduceBEq, sid_mod, sid_ne1, sid_ne2, sid_inj]) (fun x => by simp (maxSteps := 5000000) -dsimp only [gr, Nat.reduceEqDiff, Nat.reduceLT, Nat.reduceAdd, Nat.reduceMod, Nat.reduceBEq, sid_mod, sid_ne1, sid_ne2, sid_inj])) (List.Perm.refl _)
end Go.Proofs.YtmpjajhklilleaaDoor

namespace Go.Proofs.YtmpjajhklilleaaDoor
open Go.Abs
set_option linter.unusedSimpArgs false
set_option linter.unusedVariables false

theorem swq_a (q : List Nat) {a b : Nat} (ha : a < q.length) (hb : b < q.length) : ((q.set a (q.getD b 0)).set b (q.getD a 0)).getD a 0 = q.getD b 0 := by
  by_cases h : b = a
  · subst h; simp [List.getD, ha]
  · simp only [List.getD]
    rw [List.getElem?_set_ne h, List.getElem?_set_self ha]; rfl
theorem swp_a {M : Mat} {a b : Nat} (ha : a < M.length) : (swp M a b).getD a [] = M.getD b [] := by
  unfold swp
  by_cases h : b = a
  · subst h; rw [getM_set_self (by simpa using ha)]
  · rw [getM_set_ne h, getM_set_self ha]
theorem find_step {M : Mat} {col a m : Nat} (h : a < m) : findRow M col a (m - a) = if (M.getD a []).getD col 0 = 0 then findRow M col (a + 1) (m - (a + 1)) else a := by
  have e : m - a = (m - (a + 1)) + 1 := by omega
  rw [e, findRow]
theorem red_step {p : Int} {M : Mat} {piv : List Nat} {col n : Nat} (h : col < n) (h2 : piv.length < M.length) : redM p M piv col (n - col) = redM p (redStep p M col piv).1 (redStep p M col piv).2 (col + 1) (n - (col + 1)) := by
  have e : n - col = (n - (col + 1)) + 1 := by omega
  rw [e, redM, if_pos h2]
theorem clrI_zero {p : Int} {a c i : Nat} {M : Mat} (h : Res p (M.getD i [])) (hz : i = a ∨ (M.getD i []).getD c 0 = 0) : clrI p a c M i = M.getD i [] := by
  unfold clrI
  split
  · rfl
  · rename_i hne
    rw [hz.resolve_left hne, sbt_zero h]
theorem sub_mod {p x f y : Int} (hp : 0 < p) : (x + (p - f) * y) % p = (x - f * y) % p := by
  have e : x + (p - f) * y = (x - f * y) + p * y := by rw [Int.sub_mul]; omega
  rw [e, Int.add_mul_emod_self_left]
theorem c_impl_reduceMod (M : Mat) (n : Nat) (p : Int) (hp : isP p = true) (hM : MatOk p n M) (hm : M.length ≤ 900) (hn : n ≤ 1000) : AT Tryd.prog 92 [.own 1000000 1, int n, int p] 22 3 (M.map iL) ((redM p M [] 0 n).1.map iL) (.rv (.fr 3 1 (iL (ofN (redM p M [] 0 n).2)))) := by
  refine AT.goI (rs := [.tmp 6]) T_ok mixed Tryd.func92 rfl rfl rfl (by kernel_rfl) (redM_length p n M [] 0) fun hl s hs hlow ht => ?_
  have hp2 := isP_pos hp
  simp (maxSteps := 5000000) -dsimp only [↓gp, gq, reduceCtorEq, Nat.reduceEqDiff, Nat.reduceLT, Nat.reduceLeDiff, Nat.reduceAdd, Nat.reduceMul, Nat.reduceSub, Nat.reduceBEq, Int.reduceToNat, Int.reduceLE, Int.reduceLT, Int.reduceNeg, Nat.reduceMod, sid_ne1, sid_ne2, sid_inj, sid_mod, gT, TK.isInt, TK.agg, Array.toList, hs, hlow]
  refine loop_of (fun (za : Mat × List Nat × Nat × List Nat × Nat) s => match za with | (cur, piv, col, q, v) => s.sl 0 = .own 1000000 1 ∧ s.sl 1 = int n ∧ s.sl 2 = int p ∧ s.sl 7 = .own 7 v ∧ s.rw 7 = ⟨v, .sli 3 1 false (iL (ofN piv))⟩ ∧ s.sl 8 = int col ∧ (col ≤ n ∧ MatOk p n cur ∧ cur.length = M.length ∧ piv.length ≤ M.length ∧ TabI s.rw 1000000 1 22 3 q cur ∧ q.Perm (List.range M.length) ∧ redM p M [] 0 n = redM p cur piv col (n - col))) (fun (cur, piv, col, q, v) => n - col) ((M, [], 0, List.range M.length, 1)) (by refine ⟨?_, ?_, ?_, ?_, ?_, ?_, ⟨by omega, hM, rfl, by simp, ht.same (by simp (maxSteps := 5000000) -dsimp only [gr, Nat.reduceEqDiff, Nat.reduceLT, Nat.reduceAdd, Nat.reduceMod, Nat.reduceBEq, sid_mod, sid_ne1, sid_ne2, sid_inj]) (fun x => by simp (maxSteps := 5000000) -dsimp only [gr, Nat.reduceEqDiff, Nat.reduceLT, Nat.reduceAdd, Nat.reduceMod, Nat.reduceBEq, sid_mod, sid_ne1, sid_ne2, sid_inj]), List.Perm.refl _, rfl⟩⟩ <;> (first | (simp (maxSteps := 5000000) -dsimp only [gr, Nat.reduceEqDiff, Nat.reduceLT, Nat.reduceAdd, Nat.reduceMod, Nat.reduceBEq, sid_mod, sid_ne1, sid_ne2, sid_inj, hs, hlow]; first | done | rfl | (simp; done)) | assumption | rfl)) ?_
  intro (cur, piv, col, q, v) sa ⟨h0a, h1a, h2a, h7a, r7a, h8a, hIa⟩
  obtain ⟨hcol, hcur, hlc, hpl, htc, hperm, hred⟩ := hIa
  have hlq : q.length = cur.length := htc.len
  simp (maxSteps := 5000000) -dsimp only [↓gp, gq, reduceCtorEq, Nat.reduceEqDiff, Nat.reduceLT, Nat.reduceLeDiff, Nat.reduceAdd, Nat.reduceMul, Nat.reduceSub, Nat.reduceBEq, Int.reduceToNat, Int.reduceLE, Int.reduceLT, Int.reduceNeg, Nat.reduceMod, sid_ne1, sid_ne2, sid_inj, sid_mod, gT, TK.isInt, TK.agg, Array.toList, h0a, h1a, h2a, h7a, r7a, h8a, htc.top, hlq, ofN_length]
  refine ⟨fun h1 => ⟨fun h2 => ?_, fun h2 => ?_⟩, fun h1 => ?_⟩
  · have h1 : col < n := by omega
    have h2 : piv.length < cur.length := by omega
    rw [red_step h1 h2] at hred
    refine loop_of (fun (a : Nat) s => s.sl 0 = .own 1000000 1 ∧ s.sl 1 = int n ∧ s.sl 2 = int p ∧ s.sl 7 = .own 7 v ∧ s.rw 7 = ⟨v, .sli 3 1 false (iL (ofN piv))⟩ ∧ s.sl 8 = int col ∧ s.sl 9 = int piv.length ∧ s.sl 10 = int a ∧ (piv.length ≤ a ∧ a ≤ cur.length ∧ findRow cur col piv.length (cur.length - piv.length) = findRow cur col a (cur.length - a) ∧ TabI s.rw 1000000 1 22 3 q cur)) (fun a => cur.length - a) (piv.length) (by refine ⟨?_, ?_, ?_, ?_, ?_, ?_, ?_, ?_, ⟨by omega, by omega, rfl, htc.same (by simp (maxSteps := 5000000) -dsimp only [gr, Nat.reduceEqDiff, Nat.reduceLT, Nat.reduceAdd, Nat.reduceMod, Nat.reduceBEq, sid_mod, sid_ne1, sid_ne2, sid_inj]) (fun x => by simp (maxSteps := 5000000) -dsimp only [gr, Nat.reduceEqDiff, Nat.reduceLT, Nat.reduceAdd, Nat.reduceMod, Nat.reduceBEq, sid_mod, sid_ne1, sid_ne2, sid_inj])⟩⟩ <;> (first | (simp (maxSteps := 5000000) -dsimp only [gr, Nat.reduceEqDiff, Nat.reduceLT, Nat.reduceAdd, Nat.reduceMod, Nat.reduceBEq, sid_mod, sid_ne1, sid_ne2, sid_inj, h0a, h1a, h2a, h7a, r7a, h8a]; first | done | rfl | (simp; done)) | assumption | rfl)) ?_
    intro a sb ⟨h0b, h1b, h2b, h7b, r7b, h8b, h9b, h10b, hIb⟩
    obtain ⟨ha1, ha2, hfind, htb⟩ := hIb
    have stop : (¬ a < cur.length ∨ ¬ (cur.getD a []).getD col 0 = 0) → findRow cur col piv.length (cur.length - piv.length) = a := fun h => by
      rw [hfind]
      by_cases hlt : a < cur.length
      · rw [find_step hlt, if_neg (h.resolve_left (by omega))]
      · rw [show cur.length - a = 0 by omega]; rfl
    simp (maxSteps := 5000000) -dsimp only [↓gp, gq, reduceCtorEq, Nat.reduceEqDiff, Nat.reduceLT, Nat.reduceLeDiff, Nat.reduceAdd, Nat.reduceMul, Nat.reduceSub, Nat.reduceBEq, Int.reduceToNat, Int.reduceLE, Int.reduceLT, Int.reduceNeg, Nat.reduceMod, sid_ne1, sid_ne2, sid_inj, sid_mod, gT, TK.isInt, TK.agg, Array.toList, h0b, h1b, h2b, h7b, r7b, h8b, h9b, h10b, htb.top, hlq]
    refine ⟨fun h3 => ?_, fun h3 => ?_⟩
    · have hra := htb.row h3
      have hlen := hcur.len a h3
      simp (maxSteps := 5000000) -dsimp only [↓gp, gq, reduceCtorEq, Nat.reduceEqDiff, Nat.reduceLT, Nat.reduceLeDiff, Nat.reduceAdd, Nat.reduceMul, Nat.reduceSub, Nat.reduceBEq, Int.reduceToNat, Int.reduceLE, Int.reduceLT, Int.reduceNeg, Nat.reduceMod, sid_ne1, sid_ne2, sid_inj, sid_mod, gT, TK.isInt, TK.agg, Array.toList, h0b, h1b, h2b, h7b, r7b, h8b, h9b, h10b, htb.top, hlq, hra]
      refine ⟨h3, h3, by omega, by omega, fun hz => ?_, fun hz => ?_⟩
      · have hz := beq_iff_eq.1 hz
        rw [find_step h3, if_pos hz] at hfind
        exact again_of (a + 1) (by refine ⟨?_, ?_, ?_, ?_, ?_, ?_, ?_, ?_, ⟨by omega, by omega, hfind, htb.same (by simp (maxSteps := 5000000) -dsimp only [gr, Nat.reduceEqDiff, Nat.reduceLT, Nat.reduceAdd, Nat.reduceMod, Nat.reduceBEq, sid_mod, sid_ne1, sid_ne2, sid_inj]) (fun x => by simp (maxSteps := 5000000) -dsimp only [gr, Nat.reduceEqDiff, Nat.reduceLT, Nat.reduceAdd, Nat.reduceMod, Nat.reduceBEq, sid_mod, sid_ne1, sid_ne2, sid_inj])⟩⟩ <;> (first | (simp (maxSteps := 5000000) -dsimp only [gr, Nat.reduceEqDiff, Nat.reduceLT, Nat.reduceAdd, Nat.reduceMod, Nat.reduceBEq, sid_mod, sid_ne1, sid_ne2, sid_inj, h0b, h1b, h2b, h7b, r7b, h8b, h9b, h10b, wrap_nat h3 (by omega)]; first | done | rfl | (simp; done)) | assumption | rfl)) (by first | omega | (simp only; omega) | (dsimp only; omega) | (show _ < _; simp; omega))
      · have hz : ¬ (cur.getD a []).getD col 0 = 0 := by simpa using hz
        have hfa := stop (.inr hz)
        have hne : ((a : Int) == (cur.length : Int)) = false := by simp; omega
        have hst : redStep p cur col piv = (clearM p piv.length col (swp cur piv.length a), piv ++ [col]) := by unfold redStep; rw [hfa, if_neg (by omega)]
        rw [hst] at hred
        have hda : (q.set piv.length (q.getD a 0)).length = q.length := by simp
        have hrd := htb.row h2
        have hsa := swq_a q (a := piv.length) (b := a) (by omega) (by omega)
        simp (maxSteps := 5000000) -dsimp only [↓gp, gq, reduceCtorEq, Nat.reduceEqDiff, Nat.reduceLT, Nat.reduceLeDiff, Nat.reduceAdd, Nat.reduceMul, Nat.reduceSub, Nat.reduceBEq, Int.reduceToNat, Int.reduceLE, Int.reduceLT, Int.reduceNeg, Nat.reduceMod, sid_ne1, sid_ne2, sid_inj, sid_mod, gT, TK.isInt, TK.agg, Array.toList, h0b, h1b, h2b, h7b, r7b, h8b, h9b, h10b, htb.top, hlq, hra, hne, hrd, hsa]
        refine ⟨by kernel_rfl, h3, h3, h2, h2, h2, by omega, h3, by omega, by kernel_rfl, h2, h2, by omega, by omega, ?_⟩
        refine askK_of (c_impl_InverseMod _ p hp) ?_
        have hold := hcur.len a h3
        have hrold := hcur.res a h3
        generalize hoe : cur.getD a [] = old at *
        have hiv : invM p (old.getD col 0) = invM p (old.getD col 0) := rfl
        have hbb := invM_le hp (old.getD col 0)
        generalize hbe : invM p (old.getD col 0) = b at *
        have hswl : (swp cur piv.length a).length = cur.length := swp_length _ _ _
        have hswa : (swp cur piv.length a).getD piv.length [] = old := by rw [swp_a h2, hoe]
        have hsw := swp_ok hcur h2 h3
        simp (maxSteps := 5000000) -dsimp only [↓gp, gq, reduceCtorEq, Nat.reduceEqDiff, Nat.reduceLT, Nat.reduceLeDiff, Nat.reduceAdd, Nat.reduceMul, Nat.reduceSub, Nat.reduceBEq, Int.reduceToNat, Int.reduceLE, Int.reduceLT, Int.reduceNeg, Nat.reduceMod, sid_ne1, sid_ne2, sid_inj, sid_mod, gT, TK.isInt, TK.agg, Array.toList, h0b, h1b, h2b, h7b, r7b, h8b, h9b, h10b, htb.top, hlq, hra, hne, hrd, hsa]
        refine ⟨h2, h2, ?_⟩
        have hlq' : ((q.set piv.length (q.getD a 0)).set a (q.getD piv.length 0)).length = cur.length := by simp [hlq]
        have hperm' : ((q.set piv.length (q.getD a 0)).set a (q.getD piv.length 0)).Perm q := by
          have e1 : q.getD piv.length 0 = q[piv.length]'(by omega) := by simp [List.getD, (by omega : piv.length < q.length)]
          have e2 : q.getD a 0 = q[a]'(by omega) := by simp [List.getD, (by omega : a < q.length)]
          rw [e1, e2]; exact List.set_set_perm (by omega) (by omega)
        have hclr1 : (swp cur piv.length a).set piv.length (scl p b old) = clr1 p piv.length col (swp cur piv.length a) := by unfold clr1; rw [hswa, hbe]
        have hcl : clearM p piv.length col (swp cur piv.length a) = clrN p piv.length col (clr1 p piv.length col (swp cur piv.length a)) cur.length := by unfold clearM; rw [hswl]
        refine loop_of (fun (j : Nat) s => s.sl 0 = .own 1000000 1 ∧ s.sl 1 = int n ∧ s.sl 2 = int p ∧ s.sl 7 = .own 7 v ∧ s.rw 7 = ⟨v, .sli 3 1 false (iL (ofN piv))⟩ ∧ s.sl 8 = int col ∧ s.sl 9 = int piv.length ∧ s.sl 11 = int b ∧ s.sl 78 = int old.length ∧ s.sl 79 = int j ∧ (j ≤ n ∧ TabI s.rw 1000000 1 22 3 ((q.set piv.length (q.getD a 0)).set a (q.getD piv.length 0)) ((swp cur piv.length a).set piv.length (prt (scl p b old) old j)))) (fun j => n - j) (0) (by refine ⟨?_, ?_, ?_, ?_, ?_, ?_, ?_, ?_, ?_, ?_, ⟨by omega, by rw [prt_zero, ← hswa, set_self_getD]; exact (htb.swap h2 h3 (by simp (maxSteps := 5000000) -dsimp only [gr, Nat.reduceEqDiff, Nat.reduceLT, Nat.reduceAdd, Nat.reduceMod, Nat.reduceBEq, sid_mod, sid_ne1, sid_ne2, sid_inj, h0b, h1b, h2b, h7b, r7b, h8b, h9b, h10b]) (fun x => by simp (maxSteps := 5000000) -dsimp only [gr, Nat.reduceEqDiff, Nat.reduceLT, Nat.reduceAdd, Nat.reduceMod, Nat.reduceBEq, sid_mod, sid_ne1, sid_ne2, sid_inj, h0b, h1b, h2b, h7b, r7b, h8b, h9b, h10b])).1⟩⟩ <;> (first | (simp (maxSteps := 5000000) -dsimp only [gr, Nat.reduceEqDiff, Nat.reduceLT, Nat.reduceAdd, Nat.reduceMod, Nat.reduceBEq, sid_mod, sid_ne1, sid_ne2, sid_inj, h0b, h1b, h2b, h7b, r7b, h8b, h9b, h10b]; first | done | rfl | (simp; done)) | assumption | rfl)) ?_
        intro j sc ⟨h0c, h1c, h2c, h7c, r7c, h8c, h9c, h11c, h78c, h79c, hIc⟩
        obtain ⟨hj, ht1⟩ := hIc
        generalize (q.set piv.length (q.getD a 0)).set a (q.getD piv.length 0) = q' at *
        generalize hSe : swp cur piv.length a = S at *
        have hset : piv.length < (S.set piv.length (prt (scl p b old) old j)).length := by rw [List.length_set]; omega
        have hr1 := ht1.row hset
        rw [getM_set_self (by omega)] at hr1
        have hpl1 : (prt (scl p b old) old j).length = n := by rw [prt_length (scl_length p b old)]; exact hold
        have hpj := prt_getD (scl_length p b old) (Nat.le_refl j)
        have hoj := hrold j
        have hmb := mul_small hoj ⟨hbb.1, by omega⟩ hp2.2
        have hw : IntKind.i64.wrap (old.getD j 0 * b) = old.getD j 0 * b := wrap_id (by omega) (by omega)
        simp (maxSteps := 5000000) -dsimp only [↓gp, gq, reduceCtorEq, Nat.reduceEqDiff, Nat.reduceLT, Nat.reduceLeDiff, Nat.reduceAdd, Nat.reduceMul, Nat.reduceSub, Nat.reduceBEq, Int.reduceToNat, Int.reduceLE, Int.reduceLT, Int.reduceNeg, Nat.reduceMod, sid_ne1, sid_ne2, sid_inj, sid_mod, gT, TK.isInt, TK.agg, Array.toList, h0c, h1c, h2c, h7c, r7c, h8c, h9c, h11c, h78c, h79c, ht1.top, hr1, hpl1, hpj, hw, tmod_nn hmb.1, hlq']
        refine ⟨fun h => ⟨by kernel_rfl, h2, h2, h2, h2, by omega, by omega, by omega, by omega, by omega, by kernel_rfl, ?_⟩, fun h => ?_⟩
        · have h : j < n := by omega
          refine again_of (j + 1) ⟨(by (first | (simp (maxSteps := 5000000) -dsimp only [gr, Nat.reduceEqDiff, Nat.reduceLT, Nat.reduceAdd, Nat.reduceMod, Nat.reduceBEq, sid_mod, sid_ne1, sid_ne2, sid_inj, h0c, h1c, h2c, h7c, r7c, h8c, h9c, h11c, h78c, h79c, wrap_nat h (by omega)]; first | done | rfl | (simp; done)) | assumption | rfl)), (by (first | (simp (maxSteps := 5000000) -dsimp only [gr, Nat.reduceEqDiff, Nat.reduceLT, Nat.reduceAdd, Nat.reduceMod, Nat.reduceBEq, sid_mod, sid_ne1, sid_ne2, sid_inj, h0c, h1c, h2c, h7c, r7c, h8c, h9c, h11c, h78c, h79c, wrap_nat h (by omega)]; first | done | rfl | (simp; done)) | assumption | rfl)), (by (first | (simp (maxSteps := 5000000) -dsimp only [gr, Nat.reduceEqDiff, Nat.reduceLT, Nat.reduceAdd, Nat.reduceMod, Nat.reduceBEq, sid_mod, sid_ne1, sid_ne2, sid_inj, h0c, h1c, h2c, h7c, r7c, h8c, h9c, h11c, h78c, h79c, wrap_nat h (by omega)]; first | done | rfl | (simp; done)) | assumption | rfl)), (by (first | (simp (maxSteps := 5000000) -dsimp only [gr, Nat.reduceEqDiff, Nat.reduceLT, Nat.reduceAdd, Nat.reduceMod, Nat.reduceBEq, sid_mod, sid_ne1, sid_ne2, sid_inj, h0c, h1c, h2c, h7c, r7c, h8c, h9c, h11c, h78c, h79c, wrap_nat h (by omega)]; first | done | rfl | (simp; done)) | assumption | rfl)), (by (first | (simp (maxSteps := 5000000) -dsimp only [gr, Nat.reduceEqDiff, Nat.reduceLT, Nat.reduceAdd, Nat.reduceMod, Nat.reduceBEq, sid_mod, sid_ne1, sid_ne2, sid_inj, h0c, h1c, h2c, h7c, r7c, h8c, h9c, h11c, h78c, h79c, wrap_nat h (by omega)]; first | done | rfl | (simp; done)) | assumption | rfl)), (by (first | (simp (maxSteps := 5000000) -dsimp only [gr, Nat.reduceEqDiff, Nat.reduceLT, Nat.reduceAdd, Nat.reduceMod, Nat.reduceBEq, sid_mod, sid_ne1, sid_ne2, sid_inj, h0c, h1c, h2c, h7c, r7c, h8c, h9c, h11c, h78c, h79c, wrap_nat h (by omega)]; first | done | rfl | (simp; done)) | assumption | rfl)), (by (first | (simp (maxSteps := 5000000) -dsimp only [gr, Nat.reduceEqDiff, Nat.reduceLT, Nat.reduceAdd, Nat.reduceMod, Nat.reduceBEq, sid_mod, sid_ne1, sid_ne2, sid_inj, h0c, h1c, h2c, h7c, r7c, h8c, h9c, h11c, h78c, h79c, wrap_nat h (by omega)]; first | done | rfl | (simp; done)) | assumption | rfl)), (by (first | (simp (maxSteps := 5000000) -dsimp only [gr, Nat.reduceEqDiff, Nat.reduceLT, Nat.reduceAdd, Nat.reduceMod, Nat.reduceBEq, sid_mod, sid_ne1, sid_ne2, sid_inj, h0c, h1c, h2c, h7c, r7c, h8c, h9c, h11c, h78c, h79c, wrap_nat h (by omega)]; first | done | rfl | (simp; done)) | assumption | rfl)), (by (first | (simp (maxSteps := 5000000) -dsimp only [gr, Nat.reduceEqDiff, Nat.reduceLT, Nat.reduceAdd, Nat.reduceMod, Nat.reduceBEq, sid_mod, sid_ne1, sid_ne2, sid_inj, h0c, h1c, h2c, h7c, r7c, h8c, h9c, h11c, h78c, h79c, wrap_nat h (by omega)]; first | done | rfl | (simp; done)) | assumption | rfl)), (by (first | (simp (maxSteps := 5000000) -dsimp only [gr, Nat.reduceEqDiff, Nat.reduceLT, Nat.reduceAdd, Nat.reduceMod, Nat.reduceBEq, sid_mod, sid_ne1, sid_ne2, sid_inj, h0c, h1c, h2c, h7c, r7c, h8c, h9c, h11c, h78c, h79c, wrap_nat h (by omega)]; first | done | rfl | (simp; done)) | assumption | rfl)), ⟨by omega, ?_⟩⟩ (by first | omega | (simp only; omega) | (dsimp only; omega) | (show _ < _; simp; omega))
          have e : S.set piv.length (prt (scl p b old) old (j + 1)) = (S.set piv.length (prt (scl p b old) old j)).set piv.length ((prt (scl p b old) old j).set j (old.getD j 0 * b % p)) := by
            rw [set_set, ← prt_set (scl_length p b old) (by omega), scl_getD p b (by omega)]
          rw [e]
          exact ht1.set hset (by simp (maxSteps := 5000000) -dsimp only [gr, Nat.reduceEqDiff, Nat.reduceLT, Nat.reduceAdd, Nat.reduceMod, Nat.reduceBEq, sid_mod, sid_ne1, sid_ne2, sid_inj, h0c, h1c, h2c, h7c, r7c, h8c, h9c, h11c, h78c, h79c]) (by simp (maxSteps := 5000000) -dsimp only [gr, Nat.reduceEqDiff, Nat.reduceLT, Nat.reduceAdd, Nat.reduceMod, Nat.reduceBEq, sid_mod, sid_ne1, sid_ne2, sid_inj, h0c, h1c, h2c, h7c, r7c, h8c, h9c, h11c, h78c, h79c]) (fun x hx => by simp (maxSteps := 5000000) -dsimp only [gr, Nat.reduceEqDiff, Nat.reduceLT, Nat.reduceAdd, Nat.reduceMod, Nat.reduceBEq, sid_mod, sid_ne1, sid_ne2, sid_inj, h0c, h1c, h2c, h7c, r7c, h8c, h9c, h11c, h78c, h79c, hx])
        have : j = old.length := by omega
        rw [this, prt_end (scl_length p b old), hclr1] at ht1
        have hM1 := clr1_ok (p := p) (n := n) (at' := piv.length) (col := col) (by omega) hsw (by omega)
        have hl1 : (clr1 p piv.length col S).length = cur.length := by rw [clr1_length, hswl]
        rw [hcl] at hred
        generalize clr1 p piv.length col S = M1 at *
        refine loop_of (fun (i : Nat) s => s.sl 0 = .own 1000000 1 ∧ s.sl 1 = int n ∧ s.sl 2 = int p ∧ s.sl 7 = .own 7 v ∧ s.rw 7 = ⟨v, .sli 3 1 false (iL (ofN piv))⟩ ∧ s.sl 8 = int col ∧ s.sl 9 = int piv.length ∧ s.sl 101 = int cur.length ∧ s.sl 102 = int i ∧ (i ≤ cur.length ∧ TabI s.rw 1000000 1 22 3 q' (clrN p piv.length col M1 i))) (fun i => cur.length - i) (0) (by refine ⟨?_, ?_, ?_, ?_, ?_, ?_, ?_, ?_, ?_, ⟨by omega, by rw [clrN_zero]; exact ht1.same (by simp (maxSteps := 5000000) -dsimp only [gr, Nat.reduceEqDiff, Nat.reduceLT, Nat.reduceAdd, Nat.reduceMod, Nat.reduceBEq, sid_mod, sid_ne1, sid_ne2, sid_inj]) (fun x => by simp (maxSteps := 5000000) -dsimp only [gr, Nat.reduceEqDiff, Nat.reduceLT, Nat.reduceAdd, Nat.reduceMod, Nat.reduceBEq, sid_mod, sid_ne1, sid_ne2, sid_inj])⟩⟩ <;> (first | (simp (maxSteps := 5000000) -dsimp only [gr, Nat.reduceEqDiff, Nat.reduceLT, Nat.reduceAdd, Nat.reduceMod, Nat.reduceBEq, sid_mod, sid_ne1, sid_ne2, sid_inj, h0c, h1c, h2c, h7c, r7c, h8c, h9c, h11c, h78c, h79c]; first | done | rfl | (simp; done)) | assumption | rfl)) ?_
        intro i sd ⟨h0d, h1d, h2d, h7d, r7d, h8d, h9d, h101d, h102d, hId⟩
        obtain ⟨hi, ht2⟩ := hId
        have hlN : (clrN p piv.length col M1 i).length = cur.length := by rw [clrN_length, hl1]
        simp (maxSteps := 5000000) -dsimp only [↓gp, gq, reduceCtorEq, Nat.reduceEqDiff, Nat.reduceLT, Nat.reduceLeDiff, Nat.reduceAdd, Nat.reduceMul, Nat.reduceSub, Nat.reduceBEq, Int.reduceToNat, Int.reduceLE, Int.reduceLT, Int.reduceNeg, Nat.reduceMod, sid_ne1, sid_ne2, sid_inj, sid_mod, gT, TK.isInt, TK.agg, Array.toList, h0d, h1d, h2d, h7d, r7d, h8d, h9d, h101d, h102d, ht2.top, hlq']
        refine ⟨fun h => ⟨fun he => ?_, fun he => ?_⟩, fun h => ?_⟩
        · have hid : ¬ i = piv.length := by
            intro e
            simp [e] at he
          have hi1 : i < M1.length := by omega
          have hr2 := ht2.row (i := i) (by omega)
          rw [clrN_ge p piv.length col hi1 (Nat.le_refl i)] at hr2
          have hl2 := hM1.len i hi1
          have hres2 := hM1.res i hi1
          have hnewl : (clrI p piv.length col M1 i).length = (M1.getD i []).length := by rw [(clrI_ok (p := p) (by omega) hM1 hi1).1, hl2]
          simp (maxSteps := 5000000) -dsimp only [↓gp, gq, reduceCtorEq, Nat.reduceEqDiff, Nat.reduceLT, Nat.reduceLeDiff, Nat.reduceAdd, Nat.reduceMul, Nat.reduceSub, Nat.reduceBEq, Int.reduceToNat, Int.reduceLE, Int.reduceLT, Int.reduceNeg, Nat.reduceMod, sid_ne1, sid_ne2, sid_inj, sid_mod, gT, TK.isInt, TK.agg, Array.toList, h0d, h1d, h2d, h7d, r7d, h8d, h9d, h101d, h102d, ht2.top, hlq', hr2]
          refine ⟨h, h, by omega, by omega, fun hz => ?_, fun hz => ?_⟩
          · have hz : (M1.getD i []).getD col 0 = 0 := beq_iff_eq.1 hz
            have ht4 := ht2
            have hcI := clrI_zero (p := p) (a := piv.length) (c := col) hres2 (.inr hz)
            have hset2 : (clrN p piv.length col M1 i).set i (M1.getD i []) = clrN p piv.length col M1 i := by rw [← clrN_ge p piv.length col hi1 (Nat.le_refl i), set_self_getD]
            rw [← hset2, ← hcI, clrN_succ p piv.length col hi1] at ht4
            exact again_of (i + 1) (by refine ⟨?_, ?_, ?_, ?_, ?_, ?_, ?_, ?_, ?_, ⟨by omega, ht4.same (by simp (maxSteps := 5000000) -dsimp only [gr, Nat.reduceEqDiff, Nat.reduceLT, Nat.reduceAdd, Nat.reduceMod, Nat.reduceBEq, sid_mod, sid_ne1, sid_ne2, sid_inj]) (fun x => by simp (maxSteps := 5000000) -dsimp only [gr, Nat.reduceEqDiff, Nat.reduceLT, Nat.reduceAdd, Nat.reduceMod, Nat.reduceBEq, sid_mod, sid_ne1, sid_ne2, sid_inj])⟩⟩ <;> (first | (simp (maxSteps := 5000000) -dsimp only [gr, Nat.reduceEqDiff, Nat.reduceLT, Nat.reduceAdd, Nat.reduceMod, Nat.reduceBEq, sid_mod, sid_ne1, sid_ne2, sid_inj, h0d, h1d, h2d, h7d, r7d, h8d, h9d, h101d, h102d, wrap_nat h (by omega)]; first | done | rfl | (simp; done)) | assumption | rfl)) (by first | omega | (simp only; omega) | (dsimp only; omega) | (show _ < _; simp; omega))
          · have hz : ¬ (M1.getD i []).getD col 0 = 0 := by simpa using hz
            have hcI : clrI p piv.length col M1 i = sbt p ((M1.getD i []).getD col 0) (M1.getD piv.length []) (M1.getD i []) := by unfold clrI; rw [if_neg hid]
            have hfb := hres2 col
            have hset2 : (clrN p piv.length col M1 i).set i (M1.getD i []) = clrN p piv.length col M1 i := by rw [← clrN_ge p piv.length col hi1 (Nat.le_refl i), set_self_getD]
            generalize M1.getD i [] = old2 at *
            generalize old2.getD col 0 = f at *
            have hwg : IntKind.i64.wrap (p - f) = p - f := wrap_id (by omega) (by omega)
            simp (maxSteps := 5000000) -dsimp only [↓gp, gq, reduceCtorEq, Nat.reduceEqDiff, Nat.reduceLT, Nat.reduceLeDiff, Nat.reduceAdd, Nat.reduceMul, Nat.reduceSub, Nat.reduceBEq, Int.reduceToNat, Int.reduceLE, Int.reduceLT, Int.reduceNeg, Nat.reduceMod, sid_ne1, sid_ne2, sid_inj, sid_mod, gT, TK.isInt, TK.agg, Array.toList, h0d, h1d, h2d, h7d, r7d, h8d, h9d, h101d, h102d, ht2.top, hlq', hr2, hwg]
            refine ⟨h, h, by omega, by omega, h, h, ?_⟩
            refine loop_of (fun (t : Nat) s => s.sl 0 = .own 1000000 1 ∧ s.sl 1 = int n ∧ s.sl 2 = int p ∧ s.sl 7 = .own 7 v ∧ s.rw 7 = ⟨v, .sli 3 1 false (iL (ofN piv))⟩ ∧ s.sl 8 = int col ∧ s.sl 9 = int piv.length ∧ s.sl 101 = int cur.length ∧ s.sl 102 = int i ∧ s.sl 13 = int i ∧ s.sl 14 = int (p - f) ∧ s.sl 131 = int old2.length ∧ s.sl 132 = int t ∧ (t ≤ old2.length ∧ TabI s.rw 1000000 1 22 3 q' ((clrN p piv.length col M1 i).set i (prt (clrI p piv.length col M1 i) old2 t)))) (fun t => old2.length - t) (0) (by refine ⟨?_, ?_, ?_, ?_, ?_, ?_, ?_, ?_, ?_, ?_, ?_, ?_, ?_, ⟨by omega, by rw [prt_zero, hset2]; exact ht2.same (by simp (maxSteps := 5000000) -dsimp only [gr, Nat.reduceEqDiff, Nat.reduceLT, Nat.reduceAdd, Nat.reduceMod, Nat.reduceBEq, sid_mod, sid_ne1, sid_ne2, sid_inj]) (fun x => by simp (maxSteps := 5000000) -dsimp only [gr, Nat.reduceEqDiff, Nat.reduceLT, Nat.reduceAdd, Nat.reduceMod, Nat.reduceBEq, sid_mod, sid_ne1, sid_ne2, sid_inj])⟩⟩ <;> (first | (simp (maxSteps := 5000000) -dsimp only [gr, Nat.reduceEqDiff, Nat.reduceLT, Nat.reduceAdd, Nat.reduceMod, Nat.reduceBEq, sid_mod, sid_ne1, sid_ne2, sid_inj, h0d, h1d, h2d, h7d, r7d, h8d, h9d, h101d, h102d, hwg]; first | done | rfl | (simp; done)) | assumption | rfl)) ?_
            intro t se ⟨h0e, h1e, h2e, h7e, r7e, h8e, h9e, h101e, h102e, h13e, h14e, h131e, h132e, hIe⟩
            obtain ⟨ht', ht3⟩ := hIe
            have hls : ((clrN p piv.length col M1 i).set i (prt (clrI p piv.length col M1 i) old2 t)).length = cur.length := by rw [List.length_set, hlN]
            have hr3 := ht3.row (i := i) (by omega)
            rw [getM_set_self (by omega)] at hr3
            have hpl3 : (prt (clrI p piv.length col M1 i) old2 t).length = old2.length := prt_length hnewl t
            have hpj3 := prt_getD hnewl (Nat.le_refl t)
            have hra1 : piv.length < M1.length := by omega
            have hr4 := ht3.row (i := piv.length) (by omega)
            rw [getM_set_ne hid, clrN_at p piv.length col i hra1] at hr4
            have hla := hM1.len piv.length hra1
            have hresa := hM1.res piv.length hra1
            generalize M1.getD piv.length [] = pr at *
            have hft := mul_small (show 0 ≤ p - f ∧ p - f < p by omega) ⟨(hresa t).1, by have := (hresa t).2; omega⟩ hp2.2
            have hot := hres2 t
            have hw3 : IntKind.i64.wrap ((p - f) * pr.getD t 0) = (p - f) * pr.getD t 0 := wrap_id (by omega) (by omega)
            have hw4 : IntKind.i64.wrap (old2.getD t 0 + (p - f) * pr.getD t 0) = old2.getD t 0 + (p - f) * pr.getD t 0 := wrap_id (by omega) (by omega)
            have hmod : (old2.getD t 0 + (p - f) * pr.getD t 0).tmod p = (old2.getD t 0 - f * pr.getD t 0) % p := by rw [tmod_nn (by omega), sub_mod (by omega)]
            simp (maxSteps := 5000000) -dsimp only [↓gp, gq, reduceCtorEq, Nat.reduceEqDiff, Nat.reduceLT, Nat.reduceLeDiff, Nat.reduceAdd, Nat.reduceMul, Nat.reduceSub, Nat.reduceBEq, Int.reduceToNat, Int.reduceLE, Int.reduceLT, Int.reduceNeg, Nat.reduceMod, sid_ne1, sid_ne2, sid_inj, sid_mod, gT, TK.isInt, TK.agg, Array.toList, h0e, h1e, h2e, h7e, r7e, h8e, h9e, h101e, h102e, h13e, h14e, h131e, h132e, ht3.top, hlq', hr3, hr4, hpl3, hpj3, hw3, hw4, hmod]
            refine ⟨fun h2' => ⟨by kernel_rfl, h, h, h, h, h2', h2', h2, h2, by omega, by omega, by omega, h2', by omega, by kernel_rfl, ?_⟩, fun h2' => ?_⟩
            · refine again_of (t + 1) ⟨(by (first | (simp (maxSteps := 5000000) -dsimp only [gr, Nat.reduceEqDiff, Nat.reduceLT, Nat.reduceAdd, Nat.reduceMod, Nat.reduceBEq, sid_mod, sid_ne1, sid_ne2, sid_inj, h0e, h1e, h2e, h7e, r7e, h8e, h9e, h101e, h102e, h13e, h14e, h131e, h132e, wrap_nat h2' (by omega)]; first | done | rfl | (simp; done)) | assumption | rfl)), (by (first | (simp (maxSteps := 5000000) -dsimp only [gr, Nat.reduceEqDiff, Nat.reduceLT, Nat.reduceAdd, Nat.reduceMod, Nat.reduceBEq, sid_mod, sid_ne1, sid_ne2, sid_inj, h0e, h1e, h2e, h7e, r7e, h8e, h9e, h101e, h102e, h13e, h14e, h131e, h132e, wrap_nat h2' (by omega)]; first | done | rfl | (simp; done)) | assumption | rfl)), (by (first | (simp (maxSteps := 5000000) -dsimp only [gr, Nat.reduceEqDiff, Nat.reduceLT, Nat.reduceAdd, Nat.reduceMod, Nat.reduceBEq, sid_mod, sid_ne1, sid_ne2, sid_inj, h0e, h1e, h2e, h7e, r7e, h8e, h9e, h101e, h102e, h13e, h14e, h131e, h132e, wrap_nat h2' (by omega)]; first | done | rfl | (simp; done)) | assumption | rfl)), (by (first | (simp (maxSteps := 5000000) -dsimp only [gr, Nat.reduceEqDiff, Nat.reduceLT, Nat.reduceAdd, Nat.reduceMod, Nat.reduceBEq, sid_mod, sid_ne1, sid_ne2, sid_inj, h0e, h1e, h2e, h7e, r7e, h8e, h9e, h101e, h102e, h13e, h14e, h131e, h132e, wrap_nat h2' (by omega)]; first | done | rfl | (simp; done)) | assumption | rfl)), (by (first | (simp (maxSteps := 5000000) -dsimp only [gr, Nat.reduceEqDiff, Nat.reduceLT, Nat.reduceAdd, Nat.reduceMod, Nat.reduceBEq, sid_mod, sid_ne1, sid_ne2, sid_inj, h0e, h1e, h2e, h7e, r7e, h8e, h9e, h101e, h102e, h13e, h14e, h131e, h132e, wrap_nat h2' (by omega)]; first | done | rfl | (simp; done)) | assumption | rfl)), (by (first | (simp (maxSteps := 5000000) -dsimp only [gr, Nat.reduceEqDiff, Nat.reduceLT, Nat.reduceAdd, Nat.reduceMod, Nat.reduceBEq, sid_mod, sid_ne1, sid_ne2, sid_inj, h0e, h1e, h2e, h7e, r7e, h8e, h9e, h101e, h102e, h13e, h14e, h131e, h132e, wrap_nat h2' (by omega)]; first | done | rfl | (simp; done)) | assumption | rfl)), (by (first | (simp (maxSteps := 5000000) -dsimp only [gr, Nat.reduceEqDiff, Nat.reduceLT, Nat.reduceAdd, Nat.reduceMod, Nat.reduceBEq, sid_mod, sid_ne1, sid_ne2, sid_inj, h0e, h1e, h2e, h7e, r7e, h8e, h9e, h101e, h102e, h13e, h14e, h131e, h132e, wrap_nat h2' (by omega)]; first | done | rfl | (simp; done)) | assumption | rfl)), (by (first | (simp (maxSteps := 5000000) -dsimp only [gr, Nat.reduceEqDiff, Nat.reduceLT, Nat.reduceAdd, Nat.reduceMod, Nat.reduceBEq, sid_mod, sid_ne1, sid_ne2, sid_inj, h0e, h1e, h2e, h7e, r7e, h8e, h9e, h101e, h102e, h13e, h14e, h131e, h132e, wrap_nat h2' (by omega)]; first | done | rfl | (simp; done)) | assumption | rfl)), (by (first | (simp (maxSteps := 5000000) -dsimp only [gr, Nat.reduceEqDiff, Nat.reduceLT, Nat.reduceAdd, Nat.reduceMod, Nat.reduceBEq, sid_mod, sid_ne1, sid_ne2, sid_inj, h0e, h1e, h2e, h7e, r7e, h8e, h9e, h101e, h102e, h13e, h14e, h131e, h132e, wrap_nat h2' (by omega)]; first | done | rfl | (simp; done)) | assumption | rfl)), (by (first | (simp (maxSteps := 5000000) -dsimp only [gr, Nat.reduceEqDiff, Nat.reduceLT, Nat.reduceAdd, Nat.reduceMod, Nat.reduceBEq, sid_mod, sid_ne1, sid_ne2, sid_inj, h0e, h1e, h2e, h7e, r7e, h8e, h9e, h101e, h102e, h13e, h14e, h131e, h132e, wrap_nat h2' (by omega)]; first | done | rfl | (simp; done)) | assumption | rfl)), (by (first | (simp (maxSteps := 5000000) -dsimp only [gr, Nat.reduceEqDiff, Nat.reduceLT, Nat.reduceAdd, Nat.reduceMod, Nat.reduceBEq, sid_mod, sid_ne1, sid_ne2, sid_inj, h0e, h1e, h2e, h7e, r7e, h8e, h9e, h101e, h102e, h13e, h14e, h131e, h132e, wrap_nat h2' (by omega)]; first | done | rfl | (simp; done)) | assumption | rfl)), (by (first | (simp (maxSteps := 5000000) -dsimp only [gr, Nat.reduceEqDiff, Nat.reduceLT, Nat.reduceAdd, Nat.reduceMod, Nat.reduceBEq, sid_mod, sid_ne1, sid_ne2, sid_inj, h0e, h1e, h2e, h7e, r7e, h8e, h9e, h101e, h102e, h13e, h14e, h131e, h132e, wrap_nat h2' (by omega)]; first | done | rfl | (simp; done)) | assumption | rfl)), (by (first | (simp (maxSteps := 5000000) -dsimp only [gr, Nat.reduceEqDiff, Nat.reduceLT, Nat.reduceAdd, Nat.reduceMod, Nat.reduceBEq, sid_mod, sid_ne1, sid_ne2, sid_inj, h0e, h1e, h2e, h7e, r7e, h8e, h9e, h101e, h102e, h13e, h14e, h131e, h132e, wrap_nat h2' (by omega)]; first | done | rfl | (simp; done)) | assumption | rfl)), ⟨by omega, ?_⟩⟩ (by first | omega | (simp only; omega) | (dsimp only; omega) | (show _ < _; simp; omega))
              have e : (clrN p piv.length col M1 i).set i (prt (clrI p piv.length col M1 i) old2 (t + 1)) = ((clrN p piv.length col M1 i).set i (prt (clrI p piv.length col M1 i) old2 t)).set i ((prt (clrI p piv.length col M1 i) old2 t).set t ((old2.getD t 0 - f * pr.getD t 0) % p)) := by
                rw [set_set, ← prt_set hnewl h2', ← sbt_getD p f (piv := pr) h2', hcI]
              rw [e]
              exact ht3.set (by omega) (by simp (maxSteps := 5000000) -dsimp only [gr, Nat.reduceEqDiff, Nat.reduceLT, Nat.reduceAdd, Nat.reduceMod, Nat.reduceBEq, sid_mod, sid_ne1, sid_ne2, sid_inj, h0e, h1e, h2e, h7e, r7e, h8e, h9e, h101e, h102e, h13e, h14e, h131e, h132e]) (by simp (maxSteps := 5000000) -dsimp only [gr, Nat.reduceEqDiff, Nat.reduceLT, Nat.reduceAdd, Nat.reduceMod, Nat.reduceBEq, sid_mod, sid_ne1, sid_ne2, sid_inj, h0e, h1e, h2e, h7e, r7e, h8e, h9e, h101e, h102e, h13e, h14e, h131e, h132e]) (fun x hx => by simp (maxSteps := 5000000) -dsimp only [gr, Nat.reduceEqDiff, Nat.reduceLT, Nat.reduceAdd, Nat.reduceMod, Nat.reduceBEq, sid_mod, sid_ne1, sid_ne2, sid_inj, h0e, h1e, h2e, h7e, r7e, h8e, h9e, h101e, h102e, h13e, h14e, h131e, h132e, hx])
            · have : t = old2.length := by omega
              have ht4 := ht3
              rw [this, prt_end hnewl, clrN_succ p piv.length col hi1] at ht4
              exact again_of (i + 1) (by refine ⟨?_, ?_, ?_, ?_, ?_, ?_, ?_, ?_, ?_, ⟨by omega, ht4.same (by simp (maxSteps := 5000000) -dsimp only [gr, Nat.reduceEqDiff, Nat.reduceLT, Nat.reduceAdd, Nat.reduceMod, Nat.reduceBEq, sid_mod, sid_ne1, sid_ne2, sid_inj]) (fun x => by simp (maxSteps := 5000000) -dsimp only [gr, Nat.reduceEqDiff, Nat.reduceLT, Nat.reduceAdd, Nat.reduceMod, Nat.reduceBEq, sid_mod, sid_ne1, sid_ne2, sid_inj])⟩⟩ <;> (first | (simp (maxSteps := 5000000) -dsimp only [gr, Nat.reduceEqDiff, Nat.reduceLT, Nat.reduceAdd, Nat.reduceMod, Nat.reduceBEq, sid_mod, sid_ne1, sid_ne2, sid_inj, h0d, h1d, h2d, h7d, r7d, h8d, h9d, h101d, h102d, h0e, h1e, h2e, h7e, r7e, h8e, h9e, h101e, h102e, h13e, h14e, h131e, h132e, wrap_nat h (by omega)]; first | done | rfl | (simp; done)) | assumption | rfl)) (by first | omega | (simp only; omega) | (dsimp only; omega) | (show _ < _; simp; omega))
        · have hid : i = piv.length := by
            have h9 : (i : Int) = piv.length := by simpa using he
            omega
          have hi1 : i < M1.length := by omega
          have ht4 := ht2
          have hcI := clrI_zero (p := p) (a := piv.length) (c := col) (hM1.res i hi1) (.inl hid)
          have hset2 : (clrN p piv.length col M1 i).set i (M1.getD i []) = clrN p piv.length col M1 i := by rw [← clrN_ge p piv.length col hi1 (Nat.le_refl i), set_self_getD]
          rw [← hset2, ← hcI, clrN_succ p piv.length col hi1] at ht4
          exact again_of (i + 1) (by refine ⟨?_, ?_, ?_, ?_, ?_, ?_, ?_, ?_, ?_, ⟨by omega, ht4.same (by simp (maxSteps := 5000000) -dsimp only [gr, Nat.reduceEqDiff, Nat.reduceLT, Nat.reduceAdd, Nat.reduceMod, Nat.reduceBEq, sid_mod, sid_ne1, sid_ne2, sid_inj]) (fun x => by simp (maxSteps := 5000000) -dsimp only [gr, Nat.reduceEqDiff, Nat.reduceLT, Nat.reduceAdd, Nat.reduceMod, Nat.reduceBEq, sid_mod, sid_ne1, sid_ne2, sid_inj])⟩⟩ <;> (first | (simp (maxSteps := 5000000) -dsimp only [gr, Nat.reduceEqDiff, Nat.reduceLT, Nat.reduceAdd, Nat.reduceMod, Nat.reduceBEq, sid_mod, sid_ne1, sid_ne2, sid_inj, h0d, h1d, h2d, h7d, r7d, h8d, h9d, h101d, h102d, wrap_nat h (by omega)]; first | done | rfl | (simp; done)) | assumption | rfl)) (by first | omega | (simp only; omega) | (dsimp only; omega) | (show _ < _; simp; omega))
        · have : i = cur.length := by omega
          rw [this] at ht2
          refine ⟨by rw [ofN_length]; omega, ?_⟩
          exact again_of ((clrN p piv.length col M1 cur.length, piv ++ [col], col + 1, q', v + 1)) (by refine ⟨?_, ?_, ?_, ?_, ?_, ?_, ⟨by dsimp only; omega, clrN_ok (by omega) hM1, by dsimp only; rw [clrN_length, hl1, hlc], by simp; omega, ht2.same (by simp (maxSteps := 5000000) -dsimp only [gr, Nat.reduceEqDiff, Nat.reduceLT, Nat.reduceAdd, Nat.reduceMod, Nat.reduceBEq, sid_mod, sid_ne1, sid_ne2, sid_inj]) (fun x => by simp (maxSteps := 5000000) -dsimp only [gr, Nat.reduceEqDiff, Nat.reduceLT, Nat.reduceAdd, Nat.reduceMod, Nat.reduceBEq, sid_mod, sid_ne1, sid_ne2, sid_inj]), hperm'.trans hperm, hred⟩⟩ <;> (first | (simp (maxSteps := 5000000) -dsimp only [gr, Nat.reduceEqDiff, Nat.reduceLT, Nat.reduceAdd, Nat.reduceMod, Nat.reduceBEq, sid_mod, sid_ne1, sid_ne2, sid_inj, h0a, h1a, h2a, h7a, r7a, h8a, h0d, h1d, h2d, h7d, r7d, h8d, h9d, h101d, h102d, wrap_nat h1 (by omega), ofN_append, ofN_one]; first | done | rfl | (simp; done)) | assumption | rfl)) (by first | omega | (simp only; omega) | (dsimp only; omega) | (show _ < _; simp; omega))
    · have hfa := stop (.inl (by omega))
      have : a = cur.length := by omega
      subst this
      have hst : redStep p cur col piv = (cur, piv) := by unfold redStep; rw [if_pos hfa]
      rw [hst] at hred
      simp (maxSteps := 5000000) -dsimp only [↓gp, gq, reduceCtorEq, Nat.reduceEqDiff, Nat.reduceLT, Nat.reduceLeDiff, Nat.reduceAdd, Nat.reduceMul, Nat.reduceSub, Nat.reduceBEq, Int.reduceToNat, Int.reduceLE, Int.reduceLT, Int.reduceNeg, Nat.reduceMod, sid_ne1, sid_ne2, sid_inj, sid_mod, gT, TK.isInt, TK.agg, Array.toList, h0b, h1b, h2b, h7b, r7b, h8b, h9b, h10b, htb.top, hlq]
      exact again_of ((cur, piv, col + 1, q, v)) (by refine ⟨?_, ?_, ?_, ?_, ?_, ?_, ⟨by dsimp only; omega, hcur, hlc, by dsimp only; omega, htb.same (by simp (maxSteps := 5000000) -dsimp only [gr, Nat.reduceEqDiff, Nat.reduceLT, Nat.reduceAdd, Nat.reduceMod, Nat.reduceBEq, sid_mod, sid_ne1, sid_ne2, sid_inj]) (fun x => by simp (maxSteps := 5000000) -dsimp only [gr, Nat.reduceEqDiff, Nat.reduceLT, Nat.reduceAdd, Nat.reduceMod, Nat.reduceBEq, sid_mod, sid_ne1, sid_ne2, sid_inj]), hperm, hred⟩⟩ <;> (first | (simp (maxSteps := 5000000) -dsimp only [gr, Nat.reduceEqDiff, Nat.reduceLT, Nat.reduceAdd, Nat.reduceMod, Nat.reduceBEq, sid_mod, sid_ne1, sid_ne2, sid_inj, h0a, h1a, h2a, h7a, r7a, h8a, h0b, h1b, h2b, h7b, r7b, h8b, h9b, h10b, wrap_nat h1 (by omega)]; first | done | rfl | (simp; done)) | assumption | rfl)) (by first | omega | (simp only; omega) | (dsimp only; omega) | (show _ < _; simp; omega))
  · have hf : redM p cur piv col (n - col) = (cur, piv) := redM_full p cur piv col (n - col) (by omega)
    rw [hf] at hred
    rw [hred]
    refine ⟨tabEnd_of (htc.same (by simp (maxSteps := 5000000) -dsimp only [gr, Nat.reduceEqDiff, Nat.reduceLT, Nat.reduceAdd, Nat.reduceMod, Nat.reduceBEq, sid_mod, sid_ne1, sid_ne2, sid_inj]) (fun x => by simp (maxSteps := 5000000) -dsimp only [gr, Nat.reduceEqDiff, Nat.reduceLT, Nat.reduceAdd, Nat.reduceMod, Nat.reduceBEq, sid_mod, sid_ne1, sid_ne2, sid_inj])) hperm, ?_⟩
    simp (maxSteps := 5000000) -dsimp only [↓gp, gq, reduceCtorEq, Nat.reduceEqDiff, Nat.reduceLT, Nat.reduceLeDiff, Nat.reduceAdd, Nat.reduceMul, Nat.reduceSub, Nat.reduceBEq, Int.reduceToNat, Int.reduceLE, Int.reduceLT, Int.reduceNeg, Nat.reduceMod, sid_ne1, sid_ne2, sid_inj, sid_mod, gT, TK.isInt, TK.agg, Array.toList, h0a, h1a, h2a, h7a, r7a, h8a]
  · have hf : redM p cur piv col (n - col) = (cur, piv) := by rw [show n - col = 0 by omega]; rfl
    rw [hf] at hred
    rw [hred]
    refine ⟨tabEnd_of (htc.same (by simp (maxSteps := 5000000) -dsimp only [gr, Nat.reduceEqDiff, Nat.reduceLT, Nat.reduceAdd, Nat.reduceMod, Nat.reduceBEq, sid_mod, sid_ne1, sid_ne2, sid_inj]) (fun x => by simp (maxSteps := 5000000) -dsimp only [gr, Nat.reduceEqDiff, Nat.reduceLT, Nat.reduceAdd, Nat.reduceMod, Nat.reduceBEq, sid_mod, sid_ne1, sid_ne2, sid_inj])) hperm, ?_⟩
    simp (maxSteps := 5000000) -dsimp only [↓gp, gq, reduceCtorEq, Nat.reduceEqDiff, Nat.reduceLT, Nat.reduceLeDiff, Nat.reduceAdd, Nat.reduceMul, Nat.reduceSub, Nat.reduceBEq, Int.reduceToNat, Int.reduceLE, Int.reduceLT, Int.reduceNeg, Nat.reduceMod, sid_ne1, sid_ne2, sid_inj, sid_mod, gT, TK.isInt, TK.agg, Array.toList, h0a, h1a, h2a, h7a, r7a, h8a]
end Go.Proofs.YtmpjajhklilleaaDoor

namespace Go.Proofs.YtmpjajhklilleaaDoor
open Go.Abs
set_option linter.unusedSimpArgs false
set_option linter.unusedVariables false

theorem c_impl_rankOf (M : Mat) (p : Int) (hp : isP p = true) (hM : M.length ≤ 900) (hr : ∀ i, i < M.length → (M.getD i []).length = (M.getD 0 []).length) (hn : (M.getD 0 []).length ≤ 1000) : AC Tryd.prog 76 [int2 M, int p] (.im (int (rankM p M))) := by
  refine AC.go (rs := [.tmp 4]) T_ok mixed Tryd.func76 rfl rfl rfl (by kernel_rfl) fun hl => ?_
  have hp2 := isP_pos hp
  simp (maxSteps := 5000000) -dsimp only [↓gp, gq, reduceCtorEq, Nat.reduceEqDiff, Nat.reduceLT, Nat.reduceLeDiff, Nat.reduceAdd, Nat.reduceMul, Nat.reduceSub, Nat.reduceBEq, Int.reduceToNat, Int.reduceLE, Int.reduceLT, Int.reduceNeg, Nat.reduceMod, sid_ne1, sid_ne2, sid_inj, sid_mod, gT, TK.isInt, TK.agg, Array.toList]
  refine ⟨fun h0 => ?_, fun h0 => ?_⟩
  · have hM0 : M = [] := List.eq_nil_of_length_eq_zero (by simpa using h0)
    subst hM0
    rfl
  · have hM0 : ¬ M.length = 0 := by simpa using h0
    refine ⟨by kernel_rfl, askK_of (c_impl_modMatrix M p hp hM (fun i hi => by rw [hr i hi]; exact hn)) ?_⟩
    simp (maxSteps := 5000000) -dsimp only [↓gp, gq, reduceCtorEq, Nat.reduceEqDiff, Nat.reduceLT, Nat.reduceLeDiff, Nat.reduceAdd, Nat.reduceMul, Nat.reduceSub, Nat.reduceBEq, Int.reduceToNat, Int.reduceLE, Int.reduceLT, Int.reduceNeg, Nat.reduceMod, sid_ne1, sid_ne2, sid_inj, sid_mod, gT, TK.isInt, TK.agg, Array.toList]
    refine ⟨by omega, by omega, ?_⟩
    have hok := modM_ok (p := p) (by omega) hr
    have hred := c_impl_reduceMod (modM p M) (M.getD 0 []).length p hp hok (by rw [modM_length]; exact hM) hn
    refine askD_of (v := 1) hred (by repeat (first | exact GiveL.nil | refine GiveL.v ?_ | refine GiveL.own 0 rfl ?_ | refine GiveL.own 1 rfl ?_ | refine GiveL.ag ?_ ?_)) (adoptT_is 10 22 3 ((modM p M).map iL) (fun i hi => by simp (maxSteps := 5000000) -dsimp only [gr, Nat.reduceEqDiff, Nat.reduceLT, Nat.reduceAdd, Nat.reduceMod, Nat.reduceBEq, sid_mod, sid_ne1, sid_ne2, sid_inj])) List.nodup_range (by decide) ?_
    simp (maxSteps := 5000000) -dsimp only [↓gp, gq, reduceCtorEq, Nat.reduceEqDiff, Nat.reduceLT, Nat.reduceLeDiff, Nat.reduceAdd, Nat.reduceMul, Nat.reduceSub, Nat.reduceBEq, Int.reduceToNat, Int.reduceLE, Int.reduceLT, Int.reduceNeg, Nat.reduceMod, sid_ne1, sid_ne2, sid_inj, sid_mod, gT, TK.isInt, TK.agg, Array.toList]
    exact ⟨by kernel_rfl, by rw [ofN_length]; rfl⟩
theorem c_spec_l13Reduce (M : Mat) (p : Int) (hp : isP p = true) (hM : M.length ≤ 900) (hr : ∀ i, i < M.length → (M.getD i []).length = (M.getD 0 []).length) (hn : (M.getD 0 []).length ≤ 1000) :
    AC Tryd.prog 86 [int2 M, int p] (.tup [.tb 22 3 ((redM p (modM p M) [] 0 (M.getD 0 []).length).1.map iL), .fr 3 1 (iL (ofN (redM p (modM p M) [] 0 (M.getD 0 []).length).2))]) := by
  refine AC.go (rs := [.tmp 4, .tmp 5]) T_ok mixed Tryd.func86 rfl rfl rfl (by kernel_rfl) fun hl => ?_
  have hp2 := isP_pos hp
  generalize hne : (M.getD 0 []).length = n at *
  simp (maxSteps := 5000000) -dsimp only [↓gp, gq, reduceCtorEq, Nat.reduceEqDiff, Nat.reduceLT, Nat.reduceLeDiff, Nat.reduceAdd, Nat.reduceMul, Nat.reduceSub, Nat.reduceBEq, Int.reduceToNat, Int.reduceLE, Int.reduceLT, Int.reduceNeg, Nat.reduceMod, sid_ne1, sid_ne2, sid_inj, sid_mod, gT, TK.isInt, TK.agg, Array.toList]
  refine loop_gin (k := 15) (v := 1) (e := 22) (e2 := 3) (by simp (maxSteps := 5000000) -dsimp only [gr, Nat.reduceEqDiff, Nat.reduceLT, Nat.reduceAdd, Nat.reduceMod, Nat.reduceBEq, sid_mod, sid_ne1, sid_ne2, sid_inj]) (fun j => by simp (maxSteps := 5000000) -dsimp only [gr, Nat.reduceEqDiff, Nat.reduceLT, Nat.reduceAdd, Nat.reduceMod, Nat.reduceBEq, sid_mod, sid_ne1, sid_ne2, sid_inj]) (fun (i : Nat) s => s.sl 0 = int2 M ∧ s.sl 1 = int p ∧ s.sl 6 = .own 15 (i + 1) ∧ s.sl 7 = int i ∧ (i ≤ M.length ∧ TabG s.rw 15 (i + 1) 22 3 i (modM p (M.take i)))) (fun i => M.length - i) (0) (fun sX htX hslX hoX => (by refine ⟨?_, ?_, ?_, ?_, ⟨by omega, htX⟩⟩ <;> (first | (simp (maxSteps := 5000000) -dsimp only [gr, Nat.reduceEqDiff, Nat.reduceLT, Nat.reduceAdd, Nat.reduceMod, Nat.reduceBEq, sid_mod, sid_ne1, sid_ne2, sid_inj, hslX, hoX]; first | done | rfl | (simp; done)) | assumption | rfl))) ?_
  intro i sa ⟨h0a, h1a, h6a, h7a, hIa⟩
  obtain ⟨hi, ht⟩ := hIa
  simp (maxSteps := 5000000) -dsimp only [↓gp, gq, reduceCtorEq, Nat.reduceEqDiff, Nat.reduceLT, Nat.reduceLeDiff, Nat.reduceAdd, Nat.reduceMul, Nat.reduceSub, Nat.reduceBEq, Int.reduceToNat, Int.reduceLE, Int.reduceLT, Int.reduceNeg, Nat.reduceMod, sid_ne1, sid_ne2, sid_inj, sid_mod, gT, TK.isInt, TK.agg, Array.toList, h0a, h1a, h6a, h7a]
  refine ⟨fun h => ?_, fun h => ?_⟩
  · have hri := hr i h
    have hlen := modM_take_len p hi
    refine loop_wk (fun (zb : Nat × Nat) s => match zb with | (j, u) => s.sl 0 = int2 M ∧ s.sl 1 = int p ∧ s.sl 6 = .own 15 (i + 1) ∧ s.sl 7 = int i ∧ s.sl 8 = .own 22 u ∧ s.rw 22 = ⟨u, .tab 3 (iL (((M.getD i []).map fun x => x % p).take j))⟩ ∧ s.sl 9 = int j ∧ (j ≤ n ∧ TabG s.rw 15 (i + 1) 22 3 i (modM p (M.take i)))) (fun (j, u) => n - j) ((0, (sa.rw 22).ver + 1)) (Wk.tab (k := 22) (v := (sa.rw 22).ver + 1) (e := 3) (c := []) (by simp (maxSteps := 5000000) -dsimp only [gr, Nat.reduceEqDiff, Nat.reduceLT, Nat.reduceAdd, Nat.reduceMod, Nat.reduceBEq, sid_mod, sid_ne1, sid_ne2, sid_inj]) (fun p hp => by cases hp)) (by refine ⟨?_, ?_, ?_, ?_, ?_, ?_, ?_, ⟨by omega, ht.same (by simp (maxSteps := 5000000) -dsimp only [gr, Nat.reduceEqDiff, Nat.reduceLT, Nat.reduceAdd, Nat.reduceMod, Nat.reduceBEq, sid_mod, sid_ne1, sid_ne2, sid_inj]) (fun x => by simp (maxSteps := 5000000) -dsimp only [gr, Nat.reduceEqDiff, Nat.reduceLT, Nat.reduceAdd, Nat.reduceMod, Nat.reduceBEq, sid_mod, sid_ne1, sid_ne2, sid_inj])⟩⟩ <;> (first | (simp (maxSteps := 5000000) -dsimp only [gr, Nat.reduceEqDiff, Nat.reduceLT, Nat.reduceAdd, Nat.reduceMod, Nat.reduceBEq, sid_mod, sid_ne1, sid_ne2, sid_inj, h0a, h1a, h6a, h7a]; first | done | rfl | (simp; done)) | assumption | rfl)) ?_
    intro (j, u) sb ⟨h0b, h1b, h6b, h7b, h8b, r22b, h9b, hIb⟩
    obtain ⟨hj, ht2⟩ := hIb
    simp (maxSteps := 5000000) -dsimp only [↓gp, gq, reduceCtorEq, Nat.reduceEqDiff, Nat.reduceLT, Nat.reduceLeDiff, Nat.reduceAdd, Nat.reduceMul, Nat.reduceSub, Nat.reduceBEq, Int.reduceToNat, Int.reduceLE, Int.reduceLT, Int.reduceNeg, Nat.reduceMod, sid_ne1, sid_ne2, sid_inj, sid_mod, gT, TK.isInt, TK.agg, Array.toList, h0b, h1b, h6b, h7b, h8b, r22b, h9b]
    refine ⟨h, h, fun h2 => ⟨h, h, by omega, by omega, askK_of (c_spec_l13Mod _ p hp) ?_⟩, fun h2 => ?_⟩
    · simp (maxSteps := 5000000) -dsimp only [↓gp, gq, reduceCtorEq, Nat.reduceEqDiff, Nat.reduceLT, Nat.reduceLeDiff, Nat.reduceAdd, Nat.reduceMul, Nat.reduceSub, Nat.reduceBEq, Int.reduceToNat, Int.reduceLE, Int.reduceLT, Int.reduceNeg, Nat.reduceMod, sid_ne1, sid_ne2, sid_inj, sid_mod, gT, TK.isInt, TK.agg, Array.toList, h0b, h1b, h6b, h7b, h8b, r22b, h9b]
      have h2' : j < n := by omega
      have hts : ((M.getD i []).map fun x => x % p).take (j + 1) = ((M.getD i []).map fun x => x % p).take j ++ [(M.getD i []).getD j 0 % p] := by
        rw [take_snoc 0 (by simpa using h2), mod_getD p h2]
      have htl : (((M.getD i []).map fun x => x % p).take j).length ≤ 1000 := by simp; omega
      refine ⟨by omega, again_of ((j + 1, u + 1)) (by refine ⟨?_, ?_, ?_, ?_, ?_, ?_, ?_, ⟨by dsimp only; omega, ht2.same (by simp (maxSteps := 5000000) -dsimp only [gr, Nat.reduceEqDiff, Nat.reduceLT, Nat.reduceAdd, Nat.reduceMod, Nat.reduceBEq, sid_mod, sid_ne1, sid_ne2, sid_inj]) (fun x => by simp (maxSteps := 5000000) -dsimp only [gr, Nat.reduceEqDiff, Nat.reduceLT, Nat.reduceAdd, Nat.reduceMod, Nat.reduceBEq, sid_mod, sid_ne1, sid_ne2, sid_inj])⟩⟩ <;> (first | (simp (maxSteps := 5000000) -dsimp only [gr, Nat.reduceEqDiff, Nat.reduceLT, Nat.reduceAdd, Nat.reduceMod, Nat.reduceBEq, sid_mod, sid_ne1, sid_ne2, sid_inj, h0b, h1b, h6b, h7b, h8b, r22b, h9b, wrap_nat h2' (by omega), hts]; first | done | rfl | (simp; done)) | assumption | rfl)) (by first | omega | (simp only; omega) | (dsimp only; omega) | (show _ < _; simp; omega))⟩
    · have hjn : ((M.getD i []).map fun x => x % p).take j = (M.getD i []).map fun x => x % p := List.take_of_length_le (by rw [List.length_map, hri]; omega)
      rw [hjn] at r22b
      simp (maxSteps := 5000000) -dsimp only [↓gp, gq, reduceCtorEq, Nat.reduceEqDiff, Nat.reduceLT, Nat.reduceLeDiff, Nat.reduceAdd, Nat.reduceMul, Nat.reduceSub, Nat.reduceBEq, Int.reduceToNat, Int.reduceLE, Int.reduceLT, Int.reduceNeg, Nat.reduceMod, sid_ne1, sid_ne2, sid_inj, sid_mod, gT, TK.isInt, TK.agg, Array.toList, h0b, h1b, h6b, h7b, h8b, r22b, h9b, ht2.top]
      refine ⟨by omega, again_grow (k := 15) (v := i + 1 + 1) (e := 22) (e2 := 3) (n := i) (d := 22) (vd := u) (M := modM p (M.take i)) (r := (M.getD i []).map fun x => x % p) (by simp (maxSteps := 5000000) -dsimp only [gr, Nat.reduceEqDiff, Nat.reduceLT, Nat.reduceAdd, Nat.reduceMod, Nat.reduceBEq, sid_mod, sid_ne1, sid_ne2, sid_inj, ht2.top]) hlen (fun j hj => by simp (maxSteps := 5000000) -dsimp only [gr, Nat.reduceEqDiff, Nat.reduceLT, Nat.reduceAdd, Nat.reduceMod, Nat.reduceBEq, sid_mod, sid_ne1, sid_ne2, sid_inj, ht2.row j hj]) (fun j hj => by simp (maxSteps := 5000000) -dsimp only [gr, Nat.reduceEqDiff, Nat.reduceLT, Nat.reduceAdd, Nat.reduceMod, Nat.reduceBEq, sid_mod, sid_ne1, sid_ne2, sid_inj, ht2.rest j hj]) (by simp (maxSteps := 5000000) -dsimp only [gr, Nat.reduceEqDiff, Nat.reduceLT, Nat.reduceAdd, Nat.reduceMod, Nat.reduceBEq, sid_mod, sid_ne1, sid_ne2, sid_inj, h0b, h1b, h6b, h7b, h8b, r22b, h9b]) (by decide) (by decide) (i + 1) (fun sX htX hslX hoX => (by refine ⟨?_, ?_, ?_, ?_, ⟨by omega, (modM_take p h ▸ htX : TabG _ _ _ _ _ _ _)⟩⟩ <;> (first | (simp (maxSteps := 5000000) -dsimp only [gr, Nat.reduceEqDiff, Nat.reduceLT, Nat.reduceAdd, Nat.reduceMod, Nat.reduceBEq, sid_mod, sid_ne1, sid_ne2, sid_inj, hslX, hoX, h0a, h1a, h6a, h7a, h0b, h1b, h6b, h7b, h8b, r22b, h9b, wrap_nat h (by omega)]; first | done | rfl | (simp; done)) | assumption | rfl))) (by first | omega | (simp only; omega) | (dsimp only; omega) | (show _ < _; simp; omega))⟩
  · have : i = M.length := by omega
    subst this
    rw [List.take_length] at ht
    have htI := ht.done
    have hmok := modM_ok (p := p) (by omega) hr
    have hml := modM_length p M
    generalize modM p M = R at *
    refine loop_of (fun (zc : Mat × List Nat × Nat × List Nat × Nat) s => match zc with | (cur, piv, col, q, v) => s.sl 1 = int p ∧ s.sl 6 = .own 15 (M.length + 1) ∧ s.sl 10 = .own 48 v ∧ s.rw 48 = ⟨v, .sli 3 1 false (iL (ofN piv))⟩ ∧ s.sl 11 = int col ∧ (col ≤ n ∧ MatOk p n cur ∧ cur.length = M.length ∧ piv.length ≤ M.length ∧ TabI s.rw 15 (M.length + 1) 22 3 q cur ∧ q.Perm (List.range M.length) ∧ redM p R [] 0 n = redM p cur piv col (n - col))) (fun (cur, piv, col, q, v) => n - col) ((R, [], 0, List.range M.length, (sa.rw 48).ver + 1)) (by refine ⟨?_, ?_, ?_, ?_, ?_, ⟨by omega, hmok, hml, by simp, htI.same (by simp (maxSteps := 5000000) -dsimp only [gr, Nat.reduceEqDiff, Nat.reduceLT, Nat.reduceAdd, Nat.reduceMod, Nat.reduceBEq, sid_mod, sid_ne1, sid_ne2, sid_inj]) (fun x => by simp (maxSteps := 5000000) -dsimp only [gr, Nat.reduceEqDiff, Nat.reduceLT, Nat.reduceAdd, Nat.reduceMod, Nat.reduceBEq, sid_mod, sid_ne1, sid_ne2, sid_inj]), List.Perm.refl _, rfl⟩⟩ <;> (first | (simp (maxSteps := 5000000) -dsimp only [gr, Nat.reduceEqDiff, Nat.reduceLT, Nat.reduceAdd, Nat.reduceMod, Nat.reduceBEq, sid_mod, sid_ne1, sid_ne2, sid_inj, h0a, h1a, h6a, h7a]; first | done | rfl | (simp; done)) | assumption | rfl)) ?_
    intro (cur, piv, col, q, v) sc ⟨h1c, h6c, h10c, r48c, h11c, hIc⟩
    obtain ⟨hcol, hcur, hlc, hpl, htc, hperm, hred⟩ := hIc
    have hlq : q.length = cur.length := htc.len
    simp (maxSteps := 5000000) -dsimp only [↓gp, gq, reduceCtorEq, Nat.reduceEqDiff, Nat.reduceLT, Nat.reduceLeDiff, Nat.reduceAdd, Nat.reduceMul, Nat.reduceSub, Nat.reduceBEq, Int.reduceToNat, Int.reduceLE, Int.reduceLT, Int.reduceNeg, Nat.reduceMod, sid_ne1, sid_ne2, sid_inj, sid_mod, gT, TK.isInt, TK.agg, Array.toList, h1c, h6c, h10c, r48c, h11c, htc.top, hlq, ofN_length]
    refine ⟨fun h0 => ?_, fun h0 => ?_⟩
    · have h0 : 0 < cur.length := by omega
      have hr0 := htc.row h0
      have hl0 := hcur.len 0 h0
      simp (maxSteps := 5000000) -dsimp only [↓gp, gq, reduceCtorEq, Nat.reduceEqDiff, Nat.reduceLT, Nat.reduceLeDiff, Nat.reduceAdd, Nat.reduceMul, Nat.reduceSub, Nat.reduceBEq, Int.reduceToNat, Int.reduceLE, Int.reduceLT, Int.reduceNeg, Nat.reduceMod, sid_ne1, sid_ne2, sid_inj, sid_mod, gT, TK.isInt, TK.agg, Array.toList, h1c, h6c, h10c, r48c, h11c, htc.top, hlq, ofN_length, hr0, hl0]
      refine ⟨by omega, h0, fun h1 => ⟨fun h2 => ?_, fun h2 => ?_⟩, fun h1 => ?_⟩
      · rw [red_step h1 h2] at hred
        refine loop_of (fun (a : Nat) s => s.sl 1 = int p ∧ s.sl 6 = .own 15 (M.length + 1) ∧ s.sl 10 = .own 48 v ∧ s.rw 48 = ⟨v, .sli 3 1 false (iL (ofN piv))⟩ ∧ s.sl 11 = int col ∧ s.sl 12 = int piv.length ∧ s.sl 13 = int a ∧ (piv.length ≤ a ∧ a ≤ cur.length ∧ findRow cur col piv.length (cur.length - piv.length) = findRow cur col a (cur.length - a) ∧ TabI s.rw 15 (M.length + 1) 22 3 q cur)) (fun a => cur.length - a) (piv.length) (by refine ⟨?_, ?_, ?_, ?_, ?_, ?_, ?_, ⟨by omega, by omega, rfl, htc.same (by simp (maxSteps := 5000000) -dsimp only [gr, Nat.reduceEqDiff, Nat.reduceLT, Nat.reduceAdd, Nat.reduceMod, Nat.reduceBEq, sid_mod, sid_ne1, sid_ne2, sid_inj]) (fun x => by simp (maxSteps := 5000000) -dsimp only [gr, Nat.reduceEqDiff, Nat.reduceLT, Nat.reduceAdd, Nat.reduceMod, Nat.reduceBEq, sid_mod, sid_ne1, sid_ne2, sid_inj])⟩⟩ <;> (first | (simp (maxSteps := 5000000) -dsimp only [gr, Nat.reduceEqDiff, Nat.reduceLT, Nat.reduceAdd, Nat.reduceMod, Nat.reduceBEq, sid_mod, sid_ne1, sid_ne2, sid_inj, h1c, h6c, h10c, r48c, h11c]; first | done | rfl | (simp; done)) | assumption | rfl)) ?_
        intro a sd ⟨h1d, h6d, h10d, r48d, h11d, h12d, h13d, hId⟩
        obtain ⟨ha1, ha2, hfind, htb⟩ := hId
        have stop : (¬ a < cur.length ∨ ¬ (cur.getD a []).getD col 0 = 0) → findRow cur col piv.length (cur.length - piv.length) = a := fun h => by
          rw [hfind]
          by_cases hlt : a < cur.length
          · rw [find_step hlt, if_neg (h.resolve_left (by omega))]
          · rw [show cur.length - a = 0 by omega]; rfl
        simp (maxSteps := 5000000) -dsimp only [↓gp, gq, reduceCtorEq, Nat.reduceEqDiff, Nat.reduceLT, Nat.reduceLeDiff, Nat.reduceAdd, Nat.reduceMul, Nat.reduceSub, Nat.reduceBEq, Int.reduceToNat, Int.reduceLE, Int.reduceLT, Int.reduceNeg, Nat.reduceMod, sid_ne1, sid_ne2, sid_inj, sid_mod, gT, TK.isInt, TK.agg, Array.toList, h1d, h6d, h10d, r48d, h11d, h12d, h13d, htb.top, hlq]
        refine ⟨fun h3 => ?_, fun h3 => ?_⟩
        · have hra := htb.row h3
          have hlen := hcur.len a h3
          simp (maxSteps := 5000000) -dsimp only [↓gp, gq, reduceCtorEq, Nat.reduceEqDiff, Nat.reduceLT, Nat.reduceLeDiff, Nat.reduceAdd, Nat.reduceMul, Nat.reduceSub, Nat.reduceBEq, Int.reduceToNat, Int.reduceLE, Int.reduceLT, Int.reduceNeg, Nat.reduceMod, sid_ne1, sid_ne2, sid_inj, sid_mod, gT, TK.isInt, TK.agg, Array.toList, h1d, h6d, h10d, r48d, h11d, h12d, h13d, htb.top, hlq, hra]
          refine ⟨h3, h3, by omega, by omega, fun hz => ?_, fun hz => ?_⟩
          · have hz := beq_iff_eq.1 hz
            rw [find_step h3, if_pos hz] at hfind
            exact again_of (a + 1) (by refine ⟨?_, ?_, ?_, ?_, ?_, ?_, ?_, ⟨by omega, by omega, hfind, htb.same (by simp (maxSteps := 5000000) -dsimp only [gr, Nat.reduceEqDiff, Nat.reduceLT, Nat.reduceAdd, Nat.reduceMod, Nat.reduceBEq, sid_mod, sid_ne1, sid_ne2, sid_inj]) (fun x => by simp (maxSteps := 5000000) -dsimp only [gr, Nat.reduceEqDiff, Nat.reduceLT, Nat.reduceAdd, Nat.reduceMod, Nat.reduceBEq, sid_mod, sid_ne1, sid_ne2, sid_inj])⟩⟩ <;> (first | (simp (maxSteps := 5000000) -dsimp only [gr, Nat.reduceEqDiff, Nat.reduceLT, Nat.reduceAdd, Nat.reduceMod, Nat.reduceBEq, sid_mod, sid_ne1, sid_ne2, sid_inj, h1d, h6d, h10d, r48d, h11d, h12d, h13d, wrap_nat h3 (by omega)]; first | done | rfl | (simp; done)) | assumption | rfl)) (by first | omega | (simp only; omega) | (dsimp only; omega) | (show _ < _; simp; omega))
          · have hz : ¬ (cur.getD a []).getD col 0 = 0 := by simpa using hz
            have hfa := stop (.inr hz)
            have hne' : ((a : Int) == (cur.length : Int)) = false := by simp; omega
            have hst : redStep p cur col piv = (clearM p piv.length col (swp cur piv.length a), piv ++ [col]) := by unfold redStep; rw [hfa, if_neg (by omega)]
            rw [hst] at hred
            have hrd := htb.row h2
            simp (maxSteps := 5000000) -dsimp only [↓gp, gq, reduceCtorEq, Nat.reduceEqDiff, Nat.reduceLT, Nat.reduceLeDiff, Nat.reduceAdd, Nat.reduceMul, Nat.reduceSub, Nat.reduceBEq, Int.reduceToNat, Int.reduceLE, Int.reduceLT, Int.reduceNeg, Nat.reduceMod, sid_ne1, sid_ne2, sid_inj, sid_mod, gT, TK.isInt, TK.agg, Array.toList, h1d, h6d, h10d, r48d, h11d, h12d, h13d, htb.top, hlq, hra, hne', hrd]
            have hsw := swp_ok hcur h2 h3
            have hswl : (swp cur piv.length a).length = cur.length := swp_length _ _ _
            have hqp : ((q.set a (q.getD piv.length 0)).set piv.length (q.getD a 0)).Perm q := by
              have e1 : q.getD piv.length 0 = q[piv.length]'(by omega) := by simp [List.getD, (by omega : piv.length < q.length)]
              have e2 : q.getD a 0 = q[a]'(by omega) := by simp [List.getD, (by omega : a < q.length)]
              rw [e1, e2]; exact List.set_set_perm (by omega) (by omega)
            have hclr := c_spec_l13Clear (swp cur piv.length a) n piv.length col p hp hsw (by omega) h1 hn
            refine ⟨h3, h3, h2, h2, h3, by omega, h2, by omega, askT_of hclr (by repeat (first | exact GiveL.nil | refine GiveL.v ?_ | refine GiveL.own 0 rfl ?_ | refine GiveL.own 1 rfl ?_ | refine GiveL.ag ?_ ?_)) ((htb.swap h3 h2 (by simp (maxSteps := 5000000) -dsimp only [gr, Nat.reduceEqDiff, Nat.reduceLT, Nat.reduceAdd, Nat.reduceMod, Nat.reduceBEq, sid_mod, sid_ne1, sid_ne2, sid_inj, h1d, h6d, h10d, r48d, h11d, h12d, h13d]) (fun x => by simp (maxSteps := 5000000) -dsimp only [gr, Nat.reduceEqDiff, Nat.reduceLT, Nat.reduceAdd, Nat.reduceMod, Nat.reduceBEq, sid_mod, sid_ne1, sid_ne2, sid_inj, h1d, h6d, h10d, r48d, h11d, h12d, h13d])).1.to (swp_comm cur a piv.length)).is (hqp.nodup_iff.2 htb.nd) (fun p' hp' => ?_)⟩
            simp (maxSteps := 5000000) -dsimp only [↓gp, gq, reduceCtorEq, Nat.reduceEqDiff, Nat.reduceLT, Nat.reduceLeDiff, Nat.reduceAdd, Nat.reduceMul, Nat.reduceSub, Nat.reduceBEq, Int.reduceToNat, Int.reduceLE, Int.reduceLT, Int.reduceNeg, Nat.reduceMod, sid_ne1, sid_ne2, sid_inj, sid_mod, gT, TK.isInt, TK.agg, Array.toList, h1d, h6d, h10d, r48d, h11d, h12d, h13d, ofN_length]
            refine ⟨by omega, ?_⟩
            have hnd' : p'.Nodup := hp'.nodup_iff.2 (hqp.nodup_iff.2 htb.nd)
            have hcl := clearM_ok (p := p) (at' := piv.length) (col := col) (by omega) hsw (by omega)
            have hcll := clearM_length p piv.length col (swp cur piv.length a)
            have hp'l : p'.length = cur.length := by rw [hp'.length_eq, hqp.length_eq, hlq]
            exact again_of ((clearM p piv.length col (swp cur piv.length a), piv ++ [col], col + 1, p', v + 1)) (by refine ⟨?_, ?_, ?_, ?_, ?_, ⟨by dsimp only; omega, hcl, by dsimp only; rw [hcll, hswl, hlc], by simp; omega, ⟨⟨by simp (maxSteps := 5000000) -dsimp only [gr, Nat.reduceEqDiff, Nat.reduceLT, Nat.reduceAdd, Nat.reduceMod, Nat.reduceBEq, sid_mod, sid_ne1, sid_ne2, sid_inj], by simp [hp'l, hcll, hswl], fun i hi => by simp (maxSteps := 5000000) -dsimp only [gr, Nat.reduceEqDiff, Nat.reduceLT, Nat.reduceAdd, Nat.reduceMod, Nat.reduceBEq, sid_mod, sid_ne1, sid_ne2, sid_inj, tabbed_row hnd' hi, mapI_getD]⟩, hnd'⟩, hp'.trans (hqp.trans hperm), hred⟩⟩ <;> (first | (simp (maxSteps := 5000000) -dsimp only [gr, Nat.reduceEqDiff, Nat.reduceLT, Nat.reduceAdd, Nat.reduceMod, Nat.reduceBEq, sid_mod, sid_ne1, sid_ne2, sid_inj, h1c, h6c, h10c, r48c, h11c, h1d, h6d, h10d, r48d, h11d, h12d, h13d, wrap_nat h1 (by omega), ofN_append, ofN_one]; first | done | rfl | (simp; done)) | assumption | rfl)) (by first | omega | (simp only; omega) | (dsimp only; omega) | (show _ < _; simp; omega))
        · have hfa := stop (.inl (by omega))
          have : a = cur.length := by omega
          subst this
          have hst : redStep p cur col piv = (cur, piv) := by unfold redStep; rw [if_pos hfa]
          rw [hst] at hred
          simp (maxSteps := 5000000) -dsimp only [↓gp, gq, reduceCtorEq, Nat.reduceEqDiff, Nat.reduceLT, Nat.reduceLeDiff, Nat.reduceAdd, Nat.reduceMul, Nat.reduceSub, Nat.reduceBEq, Int.reduceToNat, Int.reduceLE, Int.reduceLT, Int.reduceNeg, Nat.reduceMod, sid_ne1, sid_ne2, sid_inj, sid_mod, gT, TK.isInt, TK.agg, Array.toList, h1d, h6d, h10d, r48d, h11d, h12d, h13d, htb.top, hlq]
          exact again_of ((cur, piv, col + 1, q, v)) (by refine ⟨?_, ?_, ?_, ?_, ?_, ⟨by dsimp only; omega, hcur, hlc, by dsimp only; omega, htb.same (by simp (maxSteps := 5000000) -dsimp only [gr, Nat.reduceEqDiff, Nat.reduceLT, Nat.reduceAdd, Nat.reduceMod, Nat.reduceBEq, sid_mod, sid_ne1, sid_ne2, sid_inj]) (fun x => by simp (maxSteps := 5000000) -dsimp only [gr, Nat.reduceEqDiff, Nat.reduceLT, Nat.reduceAdd, Nat.reduceMod, Nat.reduceBEq, sid_mod, sid_ne1, sid_ne2, sid_inj]), hperm, hred⟩⟩ <;> (first | (simp (maxSteps := 5000000) -dsimp only [gr, Nat.reduceEqDiff, Nat.reduceLT, Nat.reduceAdd, Nat.reduceMod, Nat.reduceBEq, sid_mod, sid_ne1, sid_ne2, sid_inj, h1c, h6c, h10c, r48c, h11c, h1d, h6d, h10d, r48d, h11d, h12d, h13d, wrap_nat h1 (by omega)]; first | done | rfl | (simp; done)) | assumption | rfl)) (by first | omega | (simp only; omega) | (dsimp only; omega) | (show _ < _; simp; omega))
      · have hf : redM p cur piv col (n - col) = (cur, piv) := redM_full p cur piv col (n - col) h2
        rw [hf] at hred
        rw [hred]
        simp (maxSteps := 5000000) -dsimp only [↓gp, gq, reduceCtorEq, Nat.reduceEqDiff, Nat.reduceLT, Nat.reduceLeDiff, Nat.reduceAdd, Nat.reduceMul, Nat.reduceSub, Nat.reduceBEq, Int.reduceToNat, Int.reduceLE, Int.reduceLT, Int.reduceNeg, Nat.reduceMod, sid_ne1, sid_ne2, sid_inj, sid_mod, gT, TK.isInt, TK.agg, Array.toList, h1c, h6c, h10c, r48c, h11c]
        have hq9 : ∀ j ∈ q, j < 998 := fun j hj => by have := List.mem_range.1 (hperm.mem_iff.1 hj); omega
        refine out1_tabI htc (by decide) hq9 ?_
        simp (maxSteps := 5000000) -dsimp only [↓gp, gq, reduceCtorEq, Nat.reduceEqDiff, Nat.reduceLT, Nat.reduceLeDiff, Nat.reduceAdd, Nat.reduceMul, Nat.reduceSub, Nat.reduceBEq, Int.reduceToNat, Int.reduceLE, Int.reduceLT, Int.reduceNeg, Nat.reduceMod, sid_ne1, sid_ne2, sid_inj, sid_mod, gT, TK.isInt, TK.agg, Array.toList, h1c, h6c, h10c, r48c, h11c]
        exact sid_nodup htc.nd (fun j hj => by rw [sid_eq]; omega) (by decide)
      · have hf : redM p cur piv col (n - col) = (cur, piv) := by rw [show n - col = 0 by omega]; rfl
        rw [hf] at hred
        rw [hred]
        simp (maxSteps := 5000000) -dsimp only [↓gp, gq, reduceCtorEq, Nat.reduceEqDiff, Nat.reduceLT, Nat.reduceLeDiff, Nat.reduceAdd, Nat.reduceMul, Nat.reduceSub, Nat.reduceBEq, Int.reduceToNat, Int.reduceLE, Int.reduceLT, Int.reduceNeg, Nat.reduceMod, sid_ne1, sid_ne2, sid_inj, sid_mod, gT, TK.isInt, TK.agg, Array.toList, h1c, h6c, h10c, r48c, h11c]
        have hq9 : ∀ j ∈ q, j < 998 := fun j hj => by have := List.mem_range.1 (hperm.mem_iff.1 hj); omega
        refine out1_tabI htc (by decide) hq9 ?_
        simp (maxSteps := 5000000) -dsimp only [↓gp, gq, reduceCtorEq, Nat.reduceEqDiff, Nat.reduceLT, Nat.reduceLeDiff, Nat.reduceAdd, Nat.reduceMul, Nat.reduceSub, Nat.reduceBEq, Int.reduceToNat, Int.reduceLE, Int.reduceLT, Int.reduceNeg, Nat.reduceMod, sid_ne1, sid_ne2, sid_inj, sid_mod, gT, TK.isInt, TK.agg, Array.toList, h1c, h6c, h10c, r48c, h11c]
        exact sid_nodup htc.nd (fun j hj => by rw [sid_eq]; omega) (by decide)
    · have hf : redM p cur piv col (n - col) = (cur, piv) := redM_full p cur piv col (n - col) (by omega)
      rw [hf] at hred
      rw [hred]
      simp (maxSteps := 5000000) -dsimp only [↓gp, gq, reduceCtorEq, Nat.reduceEqDiff, Nat.reduceLT, Nat.reduceLeDiff, Nat.reduceAdd, Nat.reduceMul, Nat.reduceSub, Nat.reduceBEq, Int.reduceToNat, Int.reduceLE, Int.reduceLT, Int.reduceNeg, Nat.reduceMod, sid_ne1, sid_ne2, sid_inj, sid_mod, gT, TK.isInt, TK.agg, Array.toList, h1c, h6c, h10c, r48c, h11c]
      have hq9 : ∀ j ∈ q, j < 998 := fun j hj => by have := List.mem_range.1 (hperm.mem_iff.1 hj); omega
      refine out1_tabI htc (by decide) hq9 ?_
      simp (maxSteps := 5000000) -dsimp only [↓gp, gq, reduceCtorEq, Nat.reduceEqDiff, Nat.reduceLT, Nat.reduceLeDiff, Nat.reduceAdd, Nat.reduceMul, Nat.reduceSub, Nat.reduceBEq, Int.reduceToNat, Int.reduceLE, Int.reduceLT, Int.reduceNeg, Nat.reduceMod, sid_ne1, sid_ne2, sid_inj, sid_mod, gT, TK.isInt, TK.agg, Array.toList, h1c, h6c, h10c, r48c, h11c]
      exact sid_nodup htc.nd (fun j hj => by rw [sid_eq]; omega) (by decide)
theorem adopt_rdc (s : St) (d e e2 e' sz : Nat) (rows : List (List PV)) (c : List PV) : (adoptSt s d (.tup [.tb e e2 rows, .fr e' sz c])).sl d = .tup [.own d ((s.rw d).ver + 1), .own (sid d rows.length) ((s.rw (sid d rows.length)).ver + 1)] ∧
    (adoptSt s d (.tup [.tb e e2 rows, .fr e' sz c])).rw (sid d rows.length) = ⟨(s.rw (sid d rows.length)).ver + 1, .sli e' sz false c⟩ := by
  have hl : (leaves (.tb e e2 rows)).length = rows.length + 1 := by rw [leaves]; simp
  have hd : leafId d 0 = d := by unfold leafId; omega
  have hs : leafId d (0 + (rows.length + 1)) = sid d rows.length := by rw [Nat.zero_add]; rfl
  constructor
  · unfold adoptSt
    rw [put_sl_same]
    simp only [adopt2, adopt1, adoptL, adopt0, hl, hd, hs]
  · have hrw : (adoptSt s d (.tup [.tb e e2 rows, .fr e' sz c])).rw = updL s.rw d (rowsOf s.rw d (leaves (.tup [.tb e e2 rows, .fr e' sz c])) 0) 0 := by
      unfold adoptSt; rw [put_rw]; exact addRows_eq _ _ _ _
    have hlv : leaves (.tup [.tb e e2 rows, .fr e' sz c]) = leaves (.tb e e2 rows) ++ [(e', some sz, c)] := by rw [leaves_tup]; simp [leaves]
    have h2 : rows.length + 1 < (leaves (.tup [.tb e e2 rows, .fr e' sz c])).length := by rw [hlv]; simp [hl]
    have h1 : rows.length + 1 < (rowsOf s.rw d (leaves (.tup [.tb e e2 rows, .fr e' sz c])) 0).length := by rw [rowsOf_length]; exact h2
    have := updL_at s.rw d (rowsOf s.rw d (leaves (.tup [.tb e e2 rows, .fr e' sz c])) 0) 0 (rows.length + 1) h1
    rw [hs] at this
    rw [hrw, this, rowsOf_get _ _ _ _ _ h2, hs]
    have h3 : (leaves (.tup [.tb e e2 rows, .fr e' sz c]))[rows.length + 1] = (e', some sz, c) := by
      simp only [hlv]
      rw [List.getElem_append_right (by omega)]
      simp [hl]
    rw [h3]
    rfl
theorem c_spec_l13Rank (M : Mat) (p : Int) (hp : isP p = true) (hM : M.length ≤ 900) (hr : ∀ i, i < M.length → (M.getD i []).length = (M.getD 0 []).length) (hn : (M.getD 0 []).length ≤ 1000) : AC Tryd.prog 71 [int2 M, int p] (.im (int (rankM p M))) := by
  refine AC.go (rs := [.tmp 4]) T_ok mixed Tryd.func71 rfl rfl rfl (by kernel_rfl) fun hl => ?_
  simp (maxSteps := 5000000) -dsimp only [↓gp, gq, reduceCtorEq, Nat.reduceEqDiff, Nat.reduceLT, Nat.reduceLeDiff, Nat.reduceAdd, Nat.reduceMul, Nat.reduceSub, Nat.reduceBEq, Int.reduceToNat, Int.reduceLE, Int.reduceLT, Int.reduceNeg, Nat.reduceMod, sid_ne1, sid_ne2, sid_inj, sid_mod, gT, TK.isInt, TK.agg, Array.toList]
  refine askK_of (c_spec_l13Reduce M p hp hM hr hn) ?_
  simp (maxSteps := 5000000) -dsimp only [↓gp, gq, reduceCtorEq, Nat.reduceEqDiff, Nat.reduceLT, Nat.reduceLeDiff, Nat.reduceAdd, Nat.reduceMul, Nat.reduceSub, Nat.reduceBEq, Int.reduceToNat, Int.reduceLE, Int.reduceLT, Int.reduceNeg, Nat.reduceMod, sid_ne1, sid_ne2, sid_inj, sid_mod, gT, TK.isInt, TK.agg, Array.toList, adopt_rdc, ofN_length]
  rfl
end Go.Proofs.YtmpjajhklilleaaDoor
