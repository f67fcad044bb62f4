/- DERIVED by an AI agent. -/
import Derived.Test.YtnfpeinbdfmlnaaQ4
import Derived.Test.YtnfpeinbdfmlnaaQ2
import Derived.Test.YtnfpeinbdfmlnaaA12
import Derived.Test.YtnfpeinbdfmlnaaP1
namespace Go.Proofs.Ytnfpeinbdfmlnaa
open Go.Abs
set_option linter.unusedSimpArgs false
set_option linter.unusedVariables false

noncomputable def betR (n : Int) (xs : List Int) (p : Int) : Mat := if hasF n xs = true ∧ isP p = true then betT (faceB xs) p n.toNat else []
theorem betR_no {n : Int} {xs : List Int} {p : Int} (h : ¬ (hasF n xs = true ∧ isP p = true)) : betR n xs p = [] := if_neg h
theorem rangeD {n i : Nat} (h : i < n) : (List.range n).getD i 0 = i := by simp [List.getD, h]
theorem repl_snoc {α : Type} (n : Nat) (a : α) : List.replicate n a ++ [a] = List.replicate (n + 1) a := by rw [List.replicate_succ']
theorem c_spec_BettiTable (n : Int) (xs : List Int) (p : Int) : AC Try.prog 142 [.ag [int n, ints xs], int p] (.tb 31 3 ((betR n xs p).map iL)) := by
  refine AC.go (rs := [.tmp 4]) T_ok mixed Try.func142 rfl rfl rfl (by kernel_rfl) fun hl => ?_
  simp only [lens_cons, lens_nil, and_true, lens2_ag2, lens1_v, lens1_iL, true_and] at hl
  simp (maxSteps := 5000000) -dsimp only [↓gp, gq, reduceCtorEq, Nat.reduceEqDiff, Nat.reduceLT, Nat.reduceLeDiff, Nat.reduceAdd, Nat.reduceMul, Nat.reduceSub, Nat.reduceBEq, Int.reduceToNat, Int.reduceLE, Int.reduceLT, Int.reduceNeg, Nat.reduceMod, sid_ne1, sid_ne2, sid_inj, sid_mod, gT, TK.isInt, TK.agg, Array.toList]
  refine askK_of (c_spec_DimOf n xs) ?_
  have hdt := dimR_test n xs
  simp (maxSteps := 5000000) -dsimp only [↓gp, gq, reduceCtorEq, Nat.reduceEqDiff, Nat.reduceLT, Nat.reduceLeDiff, Nat.reduceAdd, Nat.reduceMul, Nat.reduceSub, Nat.reduceBEq, Int.reduceToNat, Int.reduceLE, Int.reduceLT, Int.reduceNeg, Nat.reduceMod, sid_ne1, sid_ne2, sid_inj, sid_mod, gT, TK.isInt, TK.agg, Array.toList, hdt]
  refine ⟨fun hh => askK_of (c_spec_IsFieldPrime p) ?_, fun hh => ?_⟩
  · have hh : hasF n xs = true := by simpa using hh
    simp (maxSteps := 5000000) -dsimp only [↓gp, gq, reduceCtorEq, Nat.reduceEqDiff, Nat.reduceLT, Nat.reduceLeDiff, Nat.reduceAdd, Nat.reduceMul, Nat.reduceSub, Nat.reduceBEq, Int.reduceToNat, Int.reduceLE, Int.reduceLT, Int.reduceNeg, Nat.reduceMod, sid_ne1, sid_ne2, sid_inj, sid_mod, gT, TK.isInt, TK.agg, Array.toList]
    refine ⟨fun hp => ?_, fun hp => ?_⟩
    · rw [betR_no (fun h => by rw [h.2] at hp; cases hp)]
      exact out2_tb0 (by simp (maxSteps := 5000000) -dsimp only [gr, Nat.reduceEqDiff, Nat.reduceLT, Nat.reduceAdd, Nat.reduceMod, Nat.reduceBEq, sid_mod, sid_ne1, sid_ne2, sid_inj]) (by decide)
    · have hp : isP p = true := by simpa using hp
      have hcx := (hasF_iff.1 hh).1
      obtain ⟨h1, h6, _⟩ := isCx_iff.1 hcx
      have hb : betR n xs p = betT (faceB xs) p n.toNat := if_pos ⟨hh, hp⟩
      rw [hb]
      have hxo := cx_ok hcx
      have hxl := cx_len hcx
      obtain ⟨m, rfl⟩ : ∃ m : Nat, n = m := ⟨n.toNat, by omega⟩
      rw [Int.toNat_natCast]
      have h64 := two_pow_le (m := m) (by omega)
      have hsh : ishl .i64 1 (m : Int) = ((2 ^ m : Nat) : Int) := ishl_small (by omega)
      have hun : IntKind.u64.wrap (m : Int) = (m : Int) := uwrap_id (by omega)
      have hm1 : IntKind.i64.wrap ((m : Int) + 1) = ((m + 1 : Nat) : Int) := by rw [wrap_id (by omega) (by omega)]; rfl
      refine loop_gin (k := 11) (v := 1) (e := 31) (e2 := 3) (by simp (maxSteps := 5000000) -dsimp only [gr, Nat.reduceEqDiff, Nat.reduceLT, Nat.reduceAdd, Nat.reduceMod, Nat.reduceBEq, sid_mod, sid_ne1, sid_ne2, sid_inj]) (fun j => by simp (maxSteps := 5000000) -dsimp only [gr, Nat.reduceEqDiff, Nat.reduceLT, Nat.reduceAdd, Nat.reduceMod, Nat.reduceBEq, sid_mod, sid_ne1, sid_ne2, sid_inj]) (fun (i : Nat) s => s.sl 1 = int p ∧ s.sl 2 = .ref 2 1 0 ∧ s.rw 2 = ⟨1, .box 57 [int (m : Nat), ints xs]⟩ ∧ s.sl 5 = .own 11 (i + 1) ∧ s.sl 6 = int i ∧ (i ≤ m + 1 ∧ TabG s.rw 11 (i + 1) 31 3 i (List.replicate i (List.replicate (m + 1) 0)))) (fun i => m + 1 - i) (0) (fun sX htX hslX hoX => (by refine ⟨?_, ?_, ?_, ?_, ?_, ⟨by omega, htX⟩⟩ <;> (first | (simp (maxSteps := 5000000) -dsimp only [gr, Nat.reduceEqDiff, Nat.reduceLT, Nat.reduceAdd, Nat.reduceMod, Nat.reduceBEq, sid_mod, sid_ne1, sid_ne2, sid_inj, hslX, hoX]; first | done | rfl | (simp; done)) | assumption | rfl))) ?_
      intro i sa ⟨h1a, h2a, r2a, h5a, h6a, hIa⟩
      obtain ⟨hi, ht⟩ := hIa
      simp (maxSteps := 5000000) -dsimp only [↓gp, gq, reduceCtorEq, Nat.reduceEqDiff, Nat.reduceLT, Nat.reduceLeDiff, Nat.reduceAdd, Nat.reduceMul, Nat.reduceSub, Nat.reduceBEq, Int.reduceToNat, Int.reduceLE, Int.reduceLT, Int.reduceNeg, Nat.reduceMod, sid_ne1, sid_ne2, sid_inj, sid_mod, gT, TK.isInt, TK.agg, Array.toList, h1a, h2a, r2a, h5a, h6a, hm1, Int.toNat_natCast]
      refine ⟨fun h => ⟨by omega, by omega, ?_⟩, fun h => ?_⟩
      · refine orB_r ?_
        simp (maxSteps := 5000000) -dsimp only [↓gp, gq, reduceCtorEq, Nat.reduceEqDiff, Nat.reduceLT, Nat.reduceLeDiff, Nat.reduceAdd, Nat.reduceMul, Nat.reduceSub, Nat.reduceBEq, Int.reduceToNat, Int.reduceLE, Int.reduceLT, Int.reduceNeg, Nat.reduceMod, sid_ne1, sid_ne2, sid_inj, sid_mod, gT, TK.isInt, TK.agg, Array.toList, h1a, h2a, r2a, h5a, h6a, ht.top]
        refine ⟨by omega, ?_⟩
        exact again_grow0 (k := 11) (v := i + 1 + 1) (e := 31) (e2 := 3) (n := i) (d := 31) (vd := (sa.rw 31).ver + 1) (M := List.replicate i (List.replicate (m + 1) 0)) (r := List.replicate (m + 1) 0) (by simp (maxSteps := 5000000) -dsimp only [gr, Nat.reduceEqDiff, Nat.reduceLT, Nat.reduceAdd, Nat.reduceMod, Nat.reduceBEq, sid_mod, sid_ne1, sid_ne2, sid_inj, ht.top]) (by simp) (fun j hj => by simp (maxSteps := 5000000) -dsimp only [gr, Nat.reduceEqDiff, Nat.reduceLT, Nat.reduceAdd, Nat.reduceMod, Nat.reduceBEq, sid_mod, sid_ne1, sid_ne2, sid_inj, ht.row j hj]) (fun j hj => by simp (maxSteps := 5000000) -dsimp only [gr, Nat.reduceEqDiff, Nat.reduceLT, Nat.reduceAdd, Nat.reduceMod, Nat.reduceBEq, sid_mod, sid_ne1, sid_ne2, sid_inj, ht.rest j hj]) (by simp (maxSteps := 5000000) -dsimp only [gr, Nat.reduceEqDiff, Nat.reduceLT, Nat.reduceAdd, Nat.reduceMod, Nat.reduceBEq, sid_mod, sid_ne1, sid_ne2, sid_inj, hm1]) (by decide) (by decide) (i + 1) (fun sX htX hslX hoX => (by refine ⟨?_, ?_, ?_, ?_, ?_, ⟨by omega, (repl_snoc i _ ▸ htX : TabG _ _ _ _ _ _ _)⟩⟩ <;> (first | (simp (maxSteps := 5000000) -dsimp only [gr, Nat.reduceEqDiff, Nat.reduceLT, Nat.reduceAdd, Nat.reduceMod, Nat.reduceBEq, sid_mod, sid_ne1, sid_ne2, sid_inj, hslX, hoX, h1a, h2a, r2a, h5a, h6a, h1a, h2a, r2a, h5a, h6a, wrap_nat (show i < m + 1 by omega) (by omega)]; first | done | rfl | (simp; done)) | assumption | rfl))) (by first | omega | (simp only; omega) | (dsimp only; omega) | (show _ < _; simp; omega))
      · have : i = m + 1 := by omega
        subst this
        have htI := ht.done
        refine loop_of (fun (w : Nat) s => s.sl 1 = int p ∧ s.sl 2 = .ref 2 1 0 ∧ s.rw 2 = ⟨1, .box 57 [int (m : Nat), ints xs]⟩ ∧ s.sl 5 = .own 11 (m + 1 + 1) ∧ s.sl 7 = int w ∧ (w ≤ 2 ^ m ∧ TabI s.rw 11 (m + 1 + 1) 31 3 (List.range (m + 1)) (betP (faceB xs) p m w))) (fun w => 2 ^ m - w) (0) (by refine ⟨?_, ?_, ?_, ?_, ?_, ⟨Nat.zero_le _, htI.same (by simp (maxSteps := 5000000) -dsimp only [gr, Nat.reduceEqDiff, Nat.reduceLT, Nat.reduceAdd, Nat.reduceMod, Nat.reduceBEq, sid_mod, sid_ne1, sid_ne2, sid_inj]) (fun x => by simp (maxSteps := 5000000) -dsimp only [gr, Nat.reduceEqDiff, Nat.reduceLT, Nat.reduceAdd, Nat.reduceMod, Nat.reduceBEq, sid_mod, sid_ne1, sid_ne2, sid_inj])⟩⟩ <;> (first | (simp (maxSteps := 5000000) -dsimp only [gr, Nat.reduceEqDiff, Nat.reduceLT, Nat.reduceAdd, Nat.reduceMod, Nat.reduceBEq, sid_mod, sid_ne1, sid_ne2, sid_inj, h1a, h2a, r2a, h5a, h6a]; first | done | rfl | (simp; done)) | assumption | rfl)) ?_
        intro w sb ⟨h1b, h2b, r2b, h5b, h7b, hIb⟩
        obtain ⟨hw, hb2⟩ := hIb
        simp (maxSteps := 5000000) -dsimp only [↓gp, gq, reduceCtorEq, Nat.reduceEqDiff, Nat.reduceLT, Nat.reduceLeDiff, Nat.reduceAdd, Nat.reduceMul, Nat.reduceSub, Nat.reduceBEq, Int.reduceToNat, Int.reduceLE, Int.reduceLT, Int.reduceNeg, Nat.reduceMod, sid_ne1, sid_ne2, sid_inj, sid_mod, gT, TK.isInt, TK.agg, Array.toList, h1b, h2b, r2b, h5b, h7b, hsh, hun]
        refine ⟨fun h2 => askK_of (c_spec_l2Size w (by omega)) ?_, fun h2 => ?_⟩
        · simp (maxSteps := 5000000) -dsimp only [↓gp, gq, reduceCtorEq, Nat.reduceEqDiff, Nat.reduceLT, Nat.reduceLeDiff, Nat.reduceAdd, Nat.reduceMul, Nat.reduceSub, Nat.reduceBEq, Int.reduceToNat, Int.reduceLE, Int.reduceLT, Int.reduceNeg, Nat.reduceMod, sid_ne1, sid_ne2, sid_inj, sid_mod, gT, TK.isInt, TK.agg, Array.toList, h1b, h2b, r2b, h5b, h7b, hsh, hun]
          refine askK_of (c_spec_l5Inside _ xs w (by omega) hxo (by omega)) ?_
          simp (maxSteps := 5000000) -dsimp only [↓gp, gq, reduceCtorEq, Nat.reduceEqDiff, Nat.reduceLT, Nat.reduceLeDiff, Nat.reduceAdd, Nat.reduceMul, Nat.reduceSub, Nat.reduceBEq, Int.reduceToNat, Int.reduceLE, Int.reduceLT, Int.reduceNeg, Nat.reduceMod, sid_ne1, sid_ne2, sid_inj, sid_mod, gT, TK.isInt, TK.agg, Array.toList, h1b, h2b, r2b, h5b, h7b, hsh, hun]
          refine askK_of (c_spec_HolesMod _ _ p) ?_
          have hins := hol_ins hcx (w := w) (by omega) hp
          unfold insL at hins
          rw [hins]
          have hpn := pop_le_n (n := m) (by omega) h2
          have hsm := hol_small (partF (faceB xs) w) p
          have hdl := dimN_le (partF (faceB xs) w)
          have hhl := holF_length (partF (faceB xs) w) p
          generalize hhs : holF (partF (faceB xs) w) p = hs at *
          have hsq := fun k => addH_sq (j := popN w) (betP_sq (faceB xs) p m w) hsm k
          simp (maxSteps := 5000000) -dsimp only [↓gp, gq, reduceCtorEq, Nat.reduceEqDiff, Nat.reduceLT, Nat.reduceLeDiff, Nat.reduceAdd, Nat.reduceMul, Nat.reduceSub, Nat.reduceBEq, Int.reduceToNat, Int.reduceLE, Int.reduceLT, Int.reduceNeg, Nat.reduceMod, sid_ne1, sid_ne2, sid_inj, sid_mod, gT, TK.isInt, TK.agg, Array.toList, h1b, h2b, r2b, h5b, h7b, hsh, hun]
          refine loop_of (fun (zc : Nat × Nat) s => match zc with | (k, u) => s.sl 1 = int p ∧ s.sl 2 = .ref 2 1 0 ∧ s.rw 2 = ⟨1, .box 57 [int (m : Nat), ints xs]⟩ ∧ s.sl 5 = .own 11 (m + 1 + 1) ∧ s.sl 7 = int w ∧ s.sl 8 = int (popN w : Nat) ∧ s.sl 9 = .own 48 u ∧ s.rw 48 = ⟨u, .sli 3 1 false (iL hs)⟩ ∧ s.sl 10 = int k ∧ (k ≤ hs.length ∧ TabI s.rw 11 (m + 1 + 1) 31 3 (List.range (m + 1)) (addH (betP (faceB xs) p m w) (popN w) hs k))) (fun (k, u) => hs.length - k) ((0, (sb.rw 48).ver + 1)) (by refine ⟨?_, ?_, ?_, ?_, ?_, ?_, ?_, ?_, ?_, ⟨by omega, hb2.same (by simp (maxSteps := 5000000) -dsimp only [gr, Nat.reduceEqDiff, Nat.reduceLT, Nat.reduceAdd, Nat.reduceMod, Nat.reduceBEq, sid_mod, sid_ne1, sid_ne2, sid_inj]) (fun x => by simp (maxSteps := 5000000) -dsimp only [gr, Nat.reduceEqDiff, Nat.reduceLT, Nat.reduceAdd, Nat.reduceMod, Nat.reduceBEq, sid_mod, sid_ne1, sid_ne2, sid_inj])⟩⟩ <;> (first | (simp (maxSteps := 5000000) -dsimp only [gr, Nat.reduceEqDiff, Nat.reduceLT, Nat.reduceAdd, Nat.reduceMod, Nat.reduceBEq, sid_mod, sid_ne1, sid_ne2, sid_inj, h1b, h2b, r2b, h5b, h7b]; first | done | rfl | (simp; done)) | assumption | rfl)) ?_
          intro (k, u) sc ⟨h1c, h2c, r2c, h5c, h7c, h8c, h9c, r48c, h10c, hIc⟩
          obtain ⟨hk, hb3⟩ := hIc
          have hend : (k = hs.length ∨ popN w < k) → addH (betP (faceB xs) p m w) (popN w) hs k = betP (faceB xs) p m (w + 1) := fun h => by
            have e0 : betP (faceB xs) p m (w + 1) = addH (betP (faceB xs) p m w) (popN w) (holF (partF (faceB xs) w) p) (dimN (partF (faceB xs) w)) := rfl
            rw [e0, ← hhl, hhs]
            rcases h with h | h
            · rw [h]
            · have := addH_stop (M := betP (faceB xs) p m w) (hs := hs) h (hs.length - k)
              rw [show k + (hs.length - k) = hs.length by omega] at this
              exact this.symm
          by_cases h3 : k < hs.length
          · by_cases h4 : k ≤ popN w
            · have hsq := hsq k
              have hs1 := hsq.small (popN w - k) (popN w)
              have hs2 := hsm k
              have hml := hsq.len
              have hrl := hsq.row (popN w - k) (by omega)
              have hadd : addH (betP (faceB xs) p m w) (popN w) hs (k + 1) = addAt (addH (betP (faceB xs) p m w) (popN w) hs k) (popN w - k) (popN w) (hs.getD k 0) := by rw [addH, if_pos h4]
              generalize addH (betP (faceB xs) p m w) (popN w) hs k = M at *
              have e1 : (List.range (m + 1)).getD (popN w - k) 0 = popN w - k := rangeD (by omega)
              have hrow := hb3.row (i := popN w - k) (by omega)
              rw [e1] at hrow
              have hw1 : IntKind.i64.wrap ((popN w : Int) - (k : Int)) = ((popN w - k : Nat) : Int) := by rw [wrap_id (by omega) (by omega)]; omega
              have hw2 : IntKind.i64.wrap ((M.getD (popN w - k) []).getD (popN w) 0 + hs.getD k 0) = (M.getD (popN w - k) []).getD (popN w) 0 + hs.getD k 0 := wrap_id (by omega) (by omega)
              simp (maxSteps := 5000000) -dsimp only [↓gp, gq, reduceCtorEq, Nat.reduceEqDiff, Nat.reduceLT, Nat.reduceLeDiff, Nat.reduceAdd, Nat.reduceMul, Nat.reduceSub, Nat.reduceBEq, Int.reduceToNat, Int.reduceLE, Int.reduceLT, Int.reduceNeg, Nat.reduceMod, sid_ne1, sid_ne2, sid_inj, sid_mod, gT, TK.isInt, TK.agg, Array.toList, h1c, h2c, r2c, h5c, h7c, h8c, h9c, r48c, h10c, hw1, hb3.top, ld_cellsT, e1, hrow, hrl, cellsT_length, List.length_range, hw2]
              refine ⟨fun _ => ⟨fun _ => ⟨by kernel_rfl, by omega, by omega, by omega, by omega, by omega, by omega, h3, h3, by omega, by omega, by kernel_rfl, ?_⟩, fun h => absurd h4 h⟩, fun h => absurd h3 h⟩
              exact again_of ((k + 1, u)) (by refine ⟨?_, ?_, ?_, ?_, ?_, ?_, ?_, ?_, ?_, ⟨by dsimp only; omega, by
                dsimp only
                rw [hadd]
                exact hb3.set (i := popN w - k) (by omega) (by simp (maxSteps := 5000000) -dsimp only [gr, Nat.reduceEqDiff, Nat.reduceLT, Nat.reduceAdd, Nat.reduceMod, Nat.reduceBEq, sid_mod, sid_ne1, sid_ne2, sid_inj]) (by simp (maxSteps := 5000000) -dsimp only [gr, Nat.reduceEqDiff, Nat.reduceLT, Nat.reduceAdd, Nat.reduceMod, Nat.reduceBEq, sid_mod, sid_ne1, sid_ne2, sid_inj, e1, h1c, h2c, r2c, h5c, h7c, h8c, h9c, r48c, h10c, hb3.top, hrow]) (fun x hx => by simp (maxSteps := 5000000) -dsimp only [gr, Nat.reduceEqDiff, Nat.reduceLT, Nat.reduceAdd, Nat.reduceMod, Nat.reduceBEq, sid_mod, sid_ne1, sid_ne2, sid_inj, e1 ▸ hx])⟩⟩ <;> (first | (simp (maxSteps := 5000000) -dsimp only [gr, Nat.reduceEqDiff, Nat.reduceLT, Nat.reduceAdd, Nat.reduceMod, Nat.reduceBEq, sid_mod, sid_ne1, sid_ne2, sid_inj, h1c, h2c, r2c, h5c, h7c, h8c, h9c, r48c, h10c, wrap_nat h3 (by omega)]; first | done | rfl | (simp; done)) | assumption | rfl)) (by first | omega | (simp only; omega) | (dsimp only; omega) | (show _ < _; simp; omega))
            · have e := hend (.inr (by omega))
              rw [e] at hb3
              simp (maxSteps := 5000000) -dsimp only [↓gp, gq, reduceCtorEq, Nat.reduceEqDiff, Nat.reduceLT, Nat.reduceLeDiff, Nat.reduceAdd, Nat.reduceMul, Nat.reduceSub, Nat.reduceBEq, Int.reduceToNat, Int.reduceLE, Int.reduceLT, Int.reduceNeg, Nat.reduceMod, sid_ne1, sid_ne2, sid_inj, sid_mod, gT, TK.isInt, TK.agg, Array.toList, h1c, h2c, r2c, h5c, h7c, h8c, h9c, r48c, h10c]
              refine ⟨fun _ => ⟨fun h => absurd h h4, fun _ => ?_⟩, fun h => absurd h3 h⟩
              exact again_of (w + 1) (by refine ⟨?_, ?_, ?_, ?_, ?_, ⟨by omega, hb3.same (by simp (maxSteps := 5000000) -dsimp only [gr, Nat.reduceEqDiff, Nat.reduceLT, Nat.reduceAdd, Nat.reduceMod, Nat.reduceBEq, sid_mod, sid_ne1, sid_ne2, sid_inj]) (fun x => by simp (maxSteps := 5000000) -dsimp only [gr, Nat.reduceEqDiff, Nat.reduceLT, Nat.reduceAdd, Nat.reduceMod, Nat.reduceBEq, sid_mod, sid_ne1, sid_ne2, sid_inj])⟩⟩ <;> (first | (simp (maxSteps := 5000000) -dsimp only [gr, Nat.reduceEqDiff, Nat.reduceLT, Nat.reduceAdd, Nat.reduceMod, Nat.reduceBEq, sid_mod, sid_ne1, sid_ne2, sid_inj, h1b, h2b, r2b, h5b, h7b, h1c, h2c, r2c, h5c, h7c, h8c, h9c, r48c, h10c, wrap_nat h2 (by omega)]; first | done | rfl | (simp; done)) | assumption | rfl)) (by first | omega | (simp only; omega) | (dsimp only; omega) | (show _ < _; simp; omega))
          · have e := hend (.inl (by omega))
            rw [e] at hb3
            simp (maxSteps := 5000000) -dsimp only [↓gp, gq, reduceCtorEq, Nat.reduceEqDiff, Nat.reduceLT, Nat.reduceLeDiff, Nat.reduceAdd, Nat.reduceMul, Nat.reduceSub, Nat.reduceBEq, Int.reduceToNat, Int.reduceLE, Int.reduceLT, Int.reduceNeg, Nat.reduceMod, sid_ne1, sid_ne2, sid_inj, sid_mod, gT, TK.isInt, TK.agg, Array.toList, h1c, h2c, r2c, h5c, h7c, h8c, h9c, r48c, h10c]
            refine ⟨fun h => absurd h h3, fun _ => ?_⟩
            exact again_of (w + 1) (by refine ⟨?_, ?_, ?_, ?_, ?_, ⟨by omega, hb3.same (by simp (maxSteps := 5000000) -dsimp only [gr, Nat.reduceEqDiff, Nat.reduceLT, Nat.reduceAdd, Nat.reduceMod, Nat.reduceBEq, sid_mod, sid_ne1, sid_ne2, sid_inj]) (fun x => by simp (maxSteps := 5000000) -dsimp only [gr, Nat.reduceEqDiff, Nat.reduceLT, Nat.reduceAdd, Nat.reduceMod, Nat.reduceBEq, sid_mod, sid_ne1, sid_ne2, sid_inj])⟩⟩ <;> (first | (simp (maxSteps := 5000000) -dsimp only [gr, Nat.reduceEqDiff, Nat.reduceLT, Nat.reduceAdd, Nat.reduceMod, Nat.reduceBEq, sid_mod, sid_ne1, sid_ne2, sid_inj, h1b, h2b, r2b, h5b, h7b, h1c, h2c, r2c, h5c, h7c, h8c, h9c, r48c, h10c, wrap_nat h2 (by omega)]; first | done | rfl | (simp; done)) | assumption | rfl)) (by first | omega | (simp only; omega) | (dsimp only; omega) | (show _ < _; simp; omega))
        · have : w = 2 ^ m := by omega
          subst this
          exact out2_tabI hb2 (by decide) (fun j hj => by have := List.mem_range.1 hj; omega)
  · have hh : hasF n xs = false := by simpa using hh
    rw [betR_no (fun h => by rw [h.1] at hh; cases hh)]
    exact out2_tb0 (by simp (maxSteps := 5000000) -dsimp only [gr, Nat.reduceEqDiff, Nat.reduceLT, Nat.reduceAdd, Nat.reduceMod, Nat.reduceBEq, sid_mod, sid_ne1, sid_ne2, sid_inj]) (by decide)
end Go.Proofs.Ytnfpeinbdfmlnaa

namespace Go.Proofs.Ytnfpeinbdfmlnaa
open Go.Abs
set_option linter.unusedSimpArgs false
set_option linter.unusedVariables false

def zeros (n : Nat) : List Int := List.replicate n 0
theorem c_impl_emptyTable (n : Nat) (hn : n ≤ 100) : AC Try.prog 85 [int n] (.tb 31 3 (List.replicate (n + 1) (iL (zeros (n + 1))))) := by
  refine AC.go (rs := [.tmp 2]) T_ok mixed Try.func85 rfl rfl rfl (by kernel_rfl) fun hl => ?_
  have hw : IntKind.i64.wrap ((n : Int) + 1) = ((n + 1 : Nat) : Int) := by rw [wrap_id (by omega) (by omega)]; rfl
  simp (maxSteps := 5000000) -dsimp only [↓gp, gq, reduceCtorEq, Nat.reduceEqDiff, Nat.reduceLT, Nat.reduceLeDiff, Nat.reduceAdd, Nat.reduceMul, Nat.reduceSub, Nat.reduceBEq, Int.reduceToNat, Int.reduceLE, Int.reduceLT, Int.reduceNeg, Nat.reduceMod, sid_ne1, sid_ne2, sid_inj, sid_mod, gT, TK.isInt, TK.agg, Array.toList, hw, Int.toNat_natCast]
  refine ⟨by omega, by omega, ?_⟩
  refine loop_wk (fun (i : Nat) s => s.sl 0 = int n ∧ s.sl 3 = .own 7 1 ∧ s.rw 7 = ⟨1, .tab 31 (tabC 7 (n + 1) i)⟩ ∧ s.sl 9 = int (n + 1 : Nat) ∧ s.sl 10 = int i ∧ (i ≤ n + 1 ∧ (∀ j, j < i → s.rw (sid 7 j) = ⟨1, .sli 3 1 false (iL (zeros (n + 1)))⟩) ∧ ∀ j, i ≤ j → s.rw (sid 7 j) = ⟨0, .dead⟩)) (fun i => n + 1 - i) (0) (Wk.tab (k := 7) (v := 1) (e := 31) (c := List.replicate (n + 1) (.v (.slice none 0 0))) (by simp (maxSteps := 5000000) -dsimp only [gr, Nat.reduceEqDiff, Nat.reduceLT, Nat.reduceAdd, Nat.reduceMod, Nat.reduceBEq, sid_mod, sid_ne1, sid_ne2, sid_inj]) (plain_nils _)) (by refine ⟨?_, ?_, ?_, ?_, ?_, ⟨by simp, fun j h => absurd h (by omega), fun j _ => by simp (maxSteps := 5000000) -dsimp only [gr, Nat.reduceEqDiff, Nat.reduceLT, Nat.reduceAdd, Nat.reduceMod, Nat.reduceBEq, sid_mod, sid_ne1, sid_ne2, sid_inj]⟩⟩ <;> (first | (simp (maxSteps := 5000000) -dsimp only [gr, Nat.reduceEqDiff, Nat.reduceLT, Nat.reduceAdd, Nat.reduceMod, Nat.reduceBEq, sid_mod, sid_ne1, sid_ne2, sid_inj, ← tabC_zero]; first | done | rfl | (simp; done)) | assumption | rfl)) ?_
  intro i sa ⟨h0a, h3a, r7a, h9a, h10a, hIa⟩
  obtain ⟨hi, hlo, hhi⟩ := hIa
  simp (maxSteps := 5000000) -dsimp only [↓gp, gq, reduceCtorEq, Nat.reduceEqDiff, Nat.reduceLT, Nat.reduceLeDiff, Nat.reduceAdd, Nat.reduceMul, Nat.reduceSub, Nat.reduceBEq, Int.reduceToNat, Int.reduceLE, Int.reduceLT, Int.reduceNeg, Nat.reduceMod, sid_ne1, sid_ne2, sid_inj, sid_mod, gT, TK.isInt, TK.agg, Array.toList, h0a, h3a, r7a, h9a, h10a, hw, tabC_length, Int.toNat_natCast]
  refine ⟨fun h => ⟨by omega, by omega, h, by omega, ?_⟩, fun h => ?_⟩
  · exact again_wk (i + 1) (Wk.ren (d := 17) (k := 7) (k' := sid 7 i) (v := (sa.rw 17).ver + 1) (vk := 1) (e := 3) (et := 31) (sz := 1) (c := iL (zeros (n + 1))) (cs := spl (tabC 7 (n + 1) i) i [.own 17 ((sa.rw 17).ver + 1)]) (cs' := tabC 7 (n + 1) (i + 1)) (by simp (maxSteps := 5000000) -dsimp only [gr, Nat.reduceEqDiff, Nat.reduceLT, Nat.reduceAdd, Nat.reduceMod, Nat.reduceBEq, sid_mod, sid_ne1, sid_ne2, sid_inj, zeros]) (by simp (maxSteps := 5000000) -dsimp only [gr, Nat.reduceEqDiff, Nat.reduceLT, Nat.reduceAdd, Nat.reduceMod, Nat.reduceBEq, sid_mod, sid_ne1, sid_ne2, sid_inj, h0a, h3a, r7a, h9a, h10a]) (by simp (maxSteps := 5000000) -dsimp only [gr, Nat.reduceEqDiff, Nat.reduceLT, Nat.reduceAdd, Nat.reduceMod, Nat.reduceBEq, sid_mod, sid_ne1, sid_ne2, sid_inj, hhi i (Nat.le_refl _)]) (by decide) (tabC_ren h)) (by refine ⟨?_, ?_, ?_, ?_, ?_, ⟨by omega, fun j hj => (by
      by_cases e : j = i
      · subst e; simp (maxSteps := 5000000) -dsimp only [gr, Nat.reduceEqDiff, Nat.reduceLT, Nat.reduceAdd, Nat.reduceMod, Nat.reduceBEq, sid_mod, sid_ne1, sid_ne2, sid_inj]
      · simp (maxSteps := 5000000) -dsimp only [gr, Nat.reduceEqDiff, Nat.reduceLT, Nat.reduceAdd, Nat.reduceMod, Nat.reduceBEq, sid_mod, sid_ne1, sid_ne2, sid_inj, e, hlo j (by omega)]), fun j hj => (by
      have e : ¬ j = i := by omega
      simp (maxSteps := 5000000) -dsimp only [gr, Nat.reduceEqDiff, Nat.reduceLT, Nat.reduceAdd, Nat.reduceMod, Nat.reduceBEq, sid_mod, sid_ne1, sid_ne2, sid_inj, e, hhi j (by omega)])⟩⟩ <;> (first | (simp (maxSteps := 5000000) -dsimp only [gr, Nat.reduceEqDiff, Nat.reduceLT, Nat.reduceAdd, Nat.reduceMod, Nat.reduceBEq, sid_mod, sid_ne1, sid_ne2, sid_inj, h0a, h3a, r7a, h9a, h10a, wrap_nat h (by omega)]; first | done | rfl | (simp; done)) | assumption | rfl)) (by first | omega | (simp only; omega) | (dsimp only; omega) | (show _ < _; simp; omega))
  · obtain rfl : i = n + 1 := by omega
    refine out2_tab (n := n + 1) (by decide) (by omega) (by rw [r7a, tabC_end]) (by simp) fun j hj => ?_
    rw [hlo j hj]
    simp [List.getD, hj]
end Go.Proofs.Ytnfpeinbdfmlnaa

namespace Go.Proofs.Ytnfpeinbdfmlnaa
open Go.Abs
set_option linter.unusedSimpArgs false
set_option linter.unusedVariables false

theorem zeroM_map (m : Nat) : List.replicate (m + 1) (iL (zeros (m + 1))) = (List.replicate (m + 1) (List.replicate (m + 1) (0 : Int))).map iL := by simp [zeros]
theorem c_impl_BettiTable (n : Int) (xs : List Int) (p : Int) : AC Try.prog 147 [.ag [int n, ints xs], int p] (.tb 31 3 ((betR n xs p).map iL)) := by
  refine AC.go (rs := [.tmp 4]) T_ok mixed Try.func147 rfl rfl rfl (by kernel_rfl) fun hl => ?_
  simp only [lens_cons, lens_nil, and_true, lens2_ag2, lens1_v, lens1_iL, true_and] at hl
  simp (maxSteps := 5000000) -dsimp only [↓gp, gq, reduceCtorEq, Nat.reduceEqDiff, Nat.reduceLT, Nat.reduceLeDiff, Nat.reduceAdd, Nat.reduceMul, Nat.reduceSub, Nat.reduceBEq, Int.reduceToNat, Int.reduceLE, Int.reduceLT, Int.reduceNeg, Nat.reduceMod, sid_ne1, sid_ne2, sid_inj, sid_mod, gT, TK.isInt, TK.agg, Array.toList]
  refine askK_of (c_impl_IsComplex n xs) ?_
  simp (maxSteps := 5000000) -dsimp only [↓gp, gq, reduceCtorEq, Nat.reduceEqDiff, Nat.reduceLT, Nat.reduceLeDiff, Nat.reduceAdd, Nat.reduceMul, Nat.reduceSub, Nat.reduceBEq, Int.reduceToNat, Int.reduceLE, Int.reduceLT, Int.reduceNeg, Nat.reduceMod, sid_ne1, sid_ne2, sid_inj, sid_mod, gT, TK.isInt, TK.agg, Array.toList]
  refine ⟨fun hc => ⟨fun h0 => askK_of (c_impl_IsFieldPrime p) ?_, fun h0 => ?_⟩, fun hc => ?_⟩
  · have hcx : isCx n xs = true := by simpa using hc
    have hh : hasF n xs = true := hasF_iff.2 ⟨hcx, by simp at h0; exact List.length_pos_iff.2 h0⟩
    simp (maxSteps := 5000000) -dsimp only [↓gp, gq, reduceCtorEq, Nat.reduceEqDiff, Nat.reduceLT, Nat.reduceLeDiff, Nat.reduceAdd, Nat.reduceMul, Nat.reduceSub, Nat.reduceBEq, Int.reduceToNat, Int.reduceLE, Int.reduceLT, Int.reduceNeg, Nat.reduceMod, sid_ne1, sid_ne2, sid_inj, sid_mod, gT, TK.isInt, TK.agg, Array.toList]
    refine ⟨fun hp => ?_, fun hp => ?_⟩
    · rw [betR_no (fun h => by rw [h.2] at hp; cases hp)]
      exact out2_tb0 (by simp (maxSteps := 5000000) -dsimp only [gr, Nat.reduceEqDiff, Nat.reduceLT, Nat.reduceAdd, Nat.reduceMod, Nat.reduceBEq, sid_mod, sid_ne1, sid_ne2, sid_inj]) (by decide)
    · have hp : isP p = true := by simpa using hp
      obtain ⟨h1, h6, _⟩ := isCx_iff.1 hcx
      have hb : betR n xs p = betT (faceB xs) p n.toNat := if_pos ⟨hh, hp⟩
      rw [hb]
      have hxo := cx_ok hcx
      have hxl := cx_len hcx
      obtain ⟨m, rfl⟩ : ∃ m : Nat, n = m := ⟨n.toNat, by omega⟩
      rw [Int.toNat_natCast]
      have h64 := two_pow_le (m := m) (by omega)
      have hsh : ishl .i64 1 (m : Int) = ((2 ^ m : Nat) : Int) := ishl_small (by omega)
      have hun : IntKind.u64.wrap (m : Int) = (m : Int) := uwrap_id (by omega)
      refine askK_of (c_impl_emptyTable m (by omega)) ?_
      rw [zeroM_map]
      simp (maxSteps := 5000000) -dsimp only [↓gp, gq, reduceCtorEq, Nat.reduceEqDiff, Nat.reduceLT, Nat.reduceLeDiff, Nat.reduceAdd, Nat.reduceMul, Nat.reduceSub, Nat.reduceBEq, Int.reduceToNat, Int.reduceLE, Int.reduceLT, Int.reduceNeg, Nat.reduceMod, sid_ne1, sid_ne2, sid_inj, sid_mod, gT, TK.isInt, TK.agg, Array.toList]
      refine askK_of (c_impl_facesIn _ xs hxo) ?_
      simp (maxSteps := 5000000) -dsimp only [↓gp, gq, reduceCtorEq, Nat.reduceEqDiff, Nat.reduceLT, Nat.reduceLeDiff, Nat.reduceAdd, Nat.reduceMul, Nat.reduceSub, Nat.reduceBEq, Int.reduceToNat, Int.reduceLE, Int.reduceLT, Int.reduceNeg, Nat.reduceMod, sid_ne1, sid_ne2, sid_inj, sid_mod, gT, TK.isInt, TK.agg, Array.toList]
      refine loop_of (fun (w : Nat) s => s.sl 1 = int p ∧ s.sl 2 = .ref 2 1 0 ∧ s.rw 2 = ⟨1, .box 57 [int (m : Nat), ints xs]⟩ ∧ s.sl 5 = .own 27 1 ∧ s.sl 6 = u64 (maskF (faceB xs) 64 : Nat) ∧ s.sl 7 = int w ∧ (w ≤ 2 ^ m ∧ TabI s.rw 27 1 31 3 (List.range (m + 1)) (betP (faceB xs) p m w))) (fun w => 2 ^ m - w) (0) (by refine ⟨?_, ?_, ?_, ?_, ?_, ?_, ⟨Nat.zero_le _, TabI.adopt (d := 27) (by simp only [put_rw]; rfl) (fun x => by simp only [put_rw]; rfl) (fun i hi => by simp (maxSteps := 5000000) -dsimp only [gr, Nat.reduceEqDiff, Nat.reduceLT, Nat.reduceAdd, Nat.reduceMod, Nat.reduceBEq, sid_mod, sid_ne1, sid_ne2, sid_inj]) (by simp (maxSteps := 5000000) -dsimp only [gr, Nat.reduceEqDiff, Nat.reduceLT, Nat.reduceAdd, Nat.reduceMod, Nat.reduceBEq, sid_mod, sid_ne1, sid_ne2, sid_inj]) List.length_replicate⟩⟩ <;> (first | (simp (maxSteps := 5000000) -dsimp only [gr, Nat.reduceEqDiff, Nat.reduceLT, Nat.reduceAdd, Nat.reduceMod, Nat.reduceBEq, sid_mod, sid_ne1, sid_ne2, sid_inj]; first | done | rfl | (simp; done)) | assumption | rfl)) ?_
      intro w sb ⟨h1b, h2b, r2b, h5b, h6b, h7b, hIb⟩
      obtain ⟨hw, hb2⟩ := hIb
      simp (maxSteps := 5000000) -dsimp only [↓gp, gq, reduceCtorEq, Nat.reduceEqDiff, Nat.reduceLT, Nat.reduceLeDiff, Nat.reduceAdd, Nat.reduceMul, Nat.reduceSub, Nat.reduceBEq, Int.reduceToNat, Int.reduceLE, Int.reduceLT, Int.reduceNeg, Nat.reduceMod, sid_ne1, sid_ne2, sid_inj, sid_mod, gT, TK.isInt, TK.agg, Array.toList, h1b, h2b, r2b, h5b, h6b, h7b, hsh, hun]
      refine ⟨fun h2 => askK_of (c_impl_SizeOf _) ?_, fun h2 => ?_⟩
      · have hw64 : w < 64 := by omega
        have hz := szOf_nat hw64
        simp (maxSteps := 5000000) -dsimp only [↓gp, gq, reduceCtorEq, Nat.reduceEqDiff, Nat.reduceLT, Nat.reduceLeDiff, Nat.reduceAdd, Nat.reduceMul, Nat.reduceSub, Nat.reduceBEq, Int.reduceToNat, Int.reduceLE, Int.reduceLT, Int.reduceNeg, Nat.reduceMod, sid_ne1, sid_ne2, sid_inj, sid_mod, gT, TK.isInt, TK.agg, Array.toList, h1b, h2b, r2b, h5b, h6b, h7b, hsh, hun, hz]
        refine askK_of (c_impl_inducedIn (faceB xs) w hw64) ?_
        simp (maxSteps := 5000000) -dsimp only [↓gp, gq, reduceCtorEq, Nat.reduceEqDiff, Nat.reduceLT, Nat.reduceLeDiff, Nat.reduceAdd, Nat.reduceMul, Nat.reduceSub, Nat.reduceBEq, Int.reduceToNat, Int.reduceLE, Int.reduceLT, Int.reduceNeg, Nat.reduceMod, sid_ne1, sid_ne2, sid_inj, sid_mod, gT, TK.isInt, TK.agg, Array.toList, h1b, h2b, r2b, h5b, h6b, h7b, hsh, hun, hz]
        refine askK_of (c_impl_holesIn _ p hp) ?_
        have epart : (fun t => faceB xs t && subB w t) = partF (faceB xs) w := rfl
        rw [epart]
        have hpn := pop_le_n (n := m) (by omega) h2
        have hsm := hol_small (partF (faceB xs) w) p
        have hdl := dimN_le (partF (faceB xs) w)
        have hhl := holF_length (partF (faceB xs) w) p
        generalize hhs : holF (partF (faceB xs) w) p = hs at *
        have hsq := fun k => addH_sq (j := popN w) (betP_sq (faceB xs) p m w) hsm k
        simp (maxSteps := 5000000) -dsimp only [↓gp, gq, reduceCtorEq, Nat.reduceEqDiff, Nat.reduceLT, Nat.reduceLeDiff, Nat.reduceAdd, Nat.reduceMul, Nat.reduceSub, Nat.reduceBEq, Int.reduceToNat, Int.reduceLE, Int.reduceLT, Int.reduceNeg, Nat.reduceMod, sid_ne1, sid_ne2, sid_inj, sid_mod, gT, TK.isInt, TK.agg, Array.toList, h1b, h2b, r2b, h5b, h6b, h7b, hsh, hun]
        refine loop_of (fun (zc : Nat × Nat) s => match zc with | (k, u) => s.sl 1 = int p ∧ s.sl 2 = .ref 2 1 0 ∧ s.rw 2 = ⟨1, .box 57 [int (m : Nat), ints xs]⟩ ∧ s.sl 5 = .own 27 1 ∧ s.sl 6 = u64 (maskF (faceB xs) 64 : Nat) ∧ s.sl 7 = int w ∧ s.sl 8 = int (popN w : Nat) ∧ s.sl 44 = .own 44 u ∧ s.rw 44 = ⟨u, .sli 3 1 false (iL hs)⟩ ∧ s.sl 45 = int hs.length ∧ s.sl 46 = int k ∧ (k ≤ hs.length ∧ TabI s.rw 27 1 31 3 (List.range (m + 1)) (addH (betP (faceB xs) p m w) (popN w) hs k))) (fun (k, u) => hs.length - k) ((0, (sb.rw 44).ver + 1)) (by refine ⟨?_, ?_, ?_, ?_, ?_, ?_, ?_, ?_, ?_, ?_, ?_, ⟨by omega, hb2.same (by simp (maxSteps := 5000000) -dsimp only [gr, Nat.reduceEqDiff, Nat.reduceLT, Nat.reduceAdd, Nat.reduceMod, Nat.reduceBEq, sid_mod, sid_ne1, sid_ne2, sid_inj]) (fun x => by simp (maxSteps := 5000000) -dsimp only [gr, Nat.reduceEqDiff, Nat.reduceLT, Nat.reduceAdd, Nat.reduceMod, Nat.reduceBEq, sid_mod, sid_ne1, sid_ne2, sid_inj])⟩⟩ <;> (first | (simp (maxSteps := 5000000) -dsimp only [gr, Nat.reduceEqDiff, Nat.reduceLT, Nat.reduceAdd, Nat.reduceMod, Nat.reduceBEq, sid_mod, sid_ne1, sid_ne2, sid_inj, h1b, h2b, r2b, h5b, h6b, h7b]; first | done | rfl | (simp; done)) | assumption | rfl)) ?_
        intro (k, u) sc ⟨h1c, h2c, r2c, h5c, h6c, h7c, h8c, h44c, r44c, h45c, h46c, hIc⟩
        obtain ⟨hk, hb3⟩ := hIc
        by_cases h3 : k < hs.length
        · by_cases h4 : k ≤ popN w
          · have hsq := hsq k
            have hs1 := hsq.small (popN w - k) (popN w)
            have hs2 := hsm k
            have hml := hsq.len
            have hrl := hsq.row (popN w - k) (by omega)
            have hadd : addH (betP (faceB xs) p m w) (popN w) hs (k + 1) = addAt (addH (betP (faceB xs) p m w) (popN w) hs k) (popN w - k) (popN w) (hs.getD k 0) := by rw [addH, if_pos h4]
            generalize addH (betP (faceB xs) p m w) (popN w) hs k = M at *
            have e1 : (List.range (m + 1)).getD (popN w - k) 0 = popN w - k := rangeD (by omega)
            have hrow := hb3.row (i := popN w - k) (by omega)
            rw [e1] at hrow
            have hw1 : IntKind.i64.wrap ((popN w : Int) - (k : Int)) = ((popN w - k : Nat) : Int) := by rw [wrap_id (by omega) (by omega)]; omega
            have hw2 : IntKind.i64.wrap ((M.getD (popN w - k) []).getD (popN w) 0 + hs.getD k 0) = (M.getD (popN w - k) []).getD (popN w) 0 + hs.getD k 0 := wrap_id (by omega) (by omega)
            simp (maxSteps := 5000000) -dsimp only [↓gp, gq, reduceCtorEq, Nat.reduceEqDiff, Nat.reduceLT, Nat.reduceLeDiff, Nat.reduceAdd, Nat.reduceMul, Nat.reduceSub, Nat.reduceBEq, Int.reduceToNat, Int.reduceLE, Int.reduceLT, Int.reduceNeg, Nat.reduceMod, sid_ne1, sid_ne2, sid_inj, sid_mod, gT, TK.isInt, TK.agg, Array.toList, h1c, h2c, r2c, h5c, h6c, h7c, h8c, h44c, r44c, h45c, h46c, hw1, hb3.top, ld_cellsT, e1, hrow, hrl, cellsT_length, List.length_range, hw2]
            refine ⟨fun _ => ⟨h3, h3, fun _ => ⟨by omega, by omega, by omega, by omega, by omega, by omega, ?_⟩, fun h => absurd h4 h⟩, fun h => absurd h3 h⟩
            exact again_of ((k + 1, u)) (by refine ⟨?_, ?_, ?_, ?_, ?_, ?_, ?_, ?_, ?_, ?_, ?_, ⟨by dsimp only; omega, by
                dsimp only
                rw [hadd]
                exact hb3.set (i := popN w - k) (by omega) (by simp (maxSteps := 5000000) -dsimp only [gr, Nat.reduceEqDiff, Nat.reduceLT, Nat.reduceAdd, Nat.reduceMod, Nat.reduceBEq, sid_mod, sid_ne1, sid_ne2, sid_inj]) (by simp (maxSteps := 5000000) -dsimp only [gr, Nat.reduceEqDiff, Nat.reduceLT, Nat.reduceAdd, Nat.reduceMod, Nat.reduceBEq, sid_mod, sid_ne1, sid_ne2, sid_inj, e1, h1c, h2c, r2c, h5c, h6c, h7c, h8c, h44c, r44c, h45c, h46c, hb3.top, hrow]) (fun x hx => by simp (maxSteps := 5000000) -dsimp only [gr, Nat.reduceEqDiff, Nat.reduceLT, Nat.reduceAdd, Nat.reduceMod, Nat.reduceBEq, sid_mod, sid_ne1, sid_ne2, sid_inj, e1 ▸ hx])⟩⟩ <;> (first | (simp (maxSteps := 5000000) -dsimp only [gr, Nat.reduceEqDiff, Nat.reduceLT, Nat.reduceAdd, Nat.reduceMod, Nat.reduceBEq, sid_mod, sid_ne1, sid_ne2, sid_inj, h1c, h2c, r2c, h5c, h6c, h7c, h8c, h44c, r44c, h45c, h46c, wrap_nat h3 (by omega)]; first | done | rfl | (simp; done)) | assumption | rfl)) (by first | omega | (simp only; omega) | (dsimp only; omega) | (show _ < _; simp; omega))
          · have hadd : addH (betP (faceB xs) p m w) (popN w) hs (k + 1) = addH (betP (faceB xs) p m w) (popN w) hs k := by rw [addH, if_neg h4]
            simp (maxSteps := 5000000) -dsimp only [↓gp, gq, reduceCtorEq, Nat.reduceEqDiff, Nat.reduceLT, Nat.reduceLeDiff, Nat.reduceAdd, Nat.reduceMul, Nat.reduceSub, Nat.reduceBEq, Int.reduceToNat, Int.reduceLE, Int.reduceLT, Int.reduceNeg, Nat.reduceMod, sid_ne1, sid_ne2, sid_inj, sid_mod, gT, TK.isInt, TK.agg, Array.toList, h1c, h2c, r2c, h5c, h6c, h7c, h8c, h44c, r44c, h45c, h46c]
            refine ⟨fun _ => ⟨h3, h3, fun h => absurd h h4, fun _ => ?_⟩, fun h => absurd h3 h⟩
            exact again_of ((k + 1, u)) (by refine ⟨?_, ?_, ?_, ?_, ?_, ?_, ?_, ?_, ?_, ?_, ?_, ⟨by dsimp only; omega, by
                dsimp only
                rw [hadd]
                exact hb3.same (by simp (maxSteps := 5000000) -dsimp only [gr, Nat.reduceEqDiff, Nat.reduceLT, Nat.reduceAdd, Nat.reduceMod, Nat.reduceBEq, sid_mod, sid_ne1, sid_ne2, sid_inj]) (fun x => by simp (maxSteps := 5000000) -dsimp only [gr, Nat.reduceEqDiff, Nat.reduceLT, Nat.reduceAdd, Nat.reduceMod, Nat.reduceBEq, sid_mod, sid_ne1, sid_ne2, sid_inj])⟩⟩ <;> (first | (simp (maxSteps := 5000000) -dsimp only [gr, Nat.reduceEqDiff, Nat.reduceLT, Nat.reduceAdd, Nat.reduceMod, Nat.reduceBEq, sid_mod, sid_ne1, sid_ne2, sid_inj, h1c, h2c, r2c, h5c, h6c, h7c, h8c, h44c, r44c, h45c, h46c, wrap_nat h3 (by omega)]; first | done | rfl | (simp; done)) | assumption | rfl)) (by first | omega | (simp only; omega) | (dsimp only; omega) | (show _ < _; simp; omega))
        · have e : addH (betP (faceB xs) p m w) (popN w) hs k = betP (faceB xs) p m (w + 1) := by
            have e0 : betP (faceB xs) p m (w + 1) = addH (betP (faceB xs) p m w) (popN w) (holF (partF (faceB xs) w) p) (dimN (partF (faceB xs) w)) := rfl
            rw [e0, ← hhl, hhs, show k = hs.length by omega]
          rw [e] at hb3
          simp (maxSteps := 5000000) -dsimp only [↓gp, gq, reduceCtorEq, Nat.reduceEqDiff, Nat.reduceLT, Nat.reduceLeDiff, Nat.reduceAdd, Nat.reduceMul, Nat.reduceSub, Nat.reduceBEq, Int.reduceToNat, Int.reduceLE, Int.reduceLT, Int.reduceNeg, Nat.reduceMod, sid_ne1, sid_ne2, sid_inj, sid_mod, gT, TK.isInt, TK.agg, Array.toList, h1c, h2c, r2c, h5c, h6c, h7c, h8c, h44c, r44c, h45c, h46c]
          refine ⟨fun h => absurd h h3, fun _ => ?_⟩
          exact again_of (w + 1) (by refine ⟨?_, ?_, ?_, ?_, ?_, ?_, ⟨by omega, hb3.same (by simp (maxSteps := 5000000) -dsimp only [gr, Nat.reduceEqDiff, Nat.reduceLT, Nat.reduceAdd, Nat.reduceMod, Nat.reduceBEq, sid_mod, sid_ne1, sid_ne2, sid_inj]) (fun x => by simp (maxSteps := 5000000) -dsimp only [gr, Nat.reduceEqDiff, Nat.reduceLT, Nat.reduceAdd, Nat.reduceMod, Nat.reduceBEq, sid_mod, sid_ne1, sid_ne2, sid_inj])⟩⟩ <;> (first | (simp (maxSteps := 5000000) -dsimp only [gr, Nat.reduceEqDiff, Nat.reduceLT, Nat.reduceAdd, Nat.reduceMod, Nat.reduceBEq, sid_mod, sid_ne1, sid_ne2, sid_inj, h1b, h2b, r2b, h5b, h6b, h7b, h1c, h2c, r2c, h5c, h6c, h7c, h8c, h44c, r44c, h45c, h46c, wrap_nat h2 (by omega)]; first | done | rfl | (simp; done)) | assumption | rfl)) (by first | omega | (simp only; omega) | (dsimp only; omega) | (show _ < _; simp; omega))
      · have : w = 2 ^ m := by omega
        subst this
        exact out2_tabI hb2 (by decide) (fun j hj => by have := List.mem_range.1 hj; omega)
  · rw [betR_no (fun h => by have := (hasF_iff.1 h.1).2; simp at h0; rw [h0] at this; simp at this)]
    exact out2_tb0 (by simp (maxSteps := 5000000) -dsimp only [gr, Nat.reduceEqDiff, Nat.reduceLT, Nat.reduceAdd, Nat.reduceMod, Nat.reduceBEq, sid_mod, sid_ne1, sid_ne2, sid_inj]) (by decide)
  · rw [betR_no (fun h => by have := (hasF_iff.1 h.1).1; rw [this] at hc; cases hc)]
    exact out2_tb0 (by simp (maxSteps := 5000000) -dsimp only [gr, Nat.reduceEqDiff, Nat.reduceLT, Nat.reduceAdd, Nat.reduceMod, Nat.reduceBEq, sid_mod, sid_ne1, sid_ne2, sid_inj]) (by decide)
end Go.Proofs.Ytnfpeinbdfmlnaa

namespace Go.Proofs.Ytnfpeinbdfmlnaa
open Go.Abs
set_option linter.unusedSimpArgs false
set_option linter.unusedVariables false

theorem betR_sq (n : Int) (xs : List Int) (p : Int) : SqB (betR n xs p) := by
  unfold betR
  split
  · rename_i h
    obtain ⟨h1, h6, _⟩ := isCx_iff.1 (hasF_iff.1 h.1).1
    exact .of (betT_sq _ p (n := n.toNat) (by omega)) (by omega)
  · exact .nil
theorem flat_map (M : Mat) : (M.map iL).map (fun r => PV.sl false 1 r) = iLL M := by unfold iLL; rw [List.map_map]; rfl
theorem c_spec_BettiTableF (n : Int) (xs : List Int) (p : Int) : AC Try.prog 142 [.ag [int n, ints xs], int p] (.fr 31 1 (iLL (betR n xs p))) := flat_map (betR n xs p) ▸ (c_spec_BettiTable n xs p).flat
theorem c_impl_BettiTableF (n : Int) (xs : List Int) (p : Int) : AC Try.prog 147 [.ag [int n, ints xs], int p] (.fr 31 1 (iLL (betR n xs p))) := flat_map (betR n xs p) ▸ (c_impl_BettiTable n xs p).flat
end Go.Proofs.Ytnfpeinbdfmlnaa

namespace Go.Proofs.Ytnfpeinbdfmlnaa
open Go.Abs
set_option linter.unusedSimpArgs false
set_option linter.unusedVariables false

end Go.Proofs.Ytnfpeinbdfmlnaa

namespace Go.Proofs.Ytnfpeinbdfmlnaa
open Go.Abs
set_option linter.unusedSimpArgs false
set_option linter.unusedVariables false

theorem c_impl_isLinearTable (M : Mat) (d : Int) (hsq : SqB M) : AC Try.prog 148 [int2 M, int d] (.im (bool (linM M d))) := by
  refine AC.go (rs := [.tmp 4]) T_ok mixed Try.func148 rfl rfl rfl (by kernel_rfl) fun hl => ?_
  have hl7 := hsq.len
  simp (maxSteps := 5000000) -dsimp only [↓gp, gq, reduceCtorEq, Nat.reduceEqDiff, Nat.reduceLT, Nat.reduceLeDiff, Nat.reduceAdd, Nat.reduceMul, Nat.reduceSub, Nat.reduceBEq, Int.reduceToNat, Int.reduceLE, Int.reduceLT, Int.reduceNeg, Nat.reduceMod, sid_ne1, sid_ne2, sid_inj, sid_mod, gT, TK.isInt, TK.agg, Array.toList]
  refine loop_of (fun (i : Nat) s => s.sl 1 = int d ∧ s.sl 9 = int2 M ∧ s.sl 10 = int M.length ∧ s.sl 11 = int i ∧ (i ≤ M.length ∧ ∀ a, 1 ≤ a → a < i → ∀ j, j < M.length → linAt M d a j)) (fun i => M.length - i) (0) (by refine ⟨?_, ?_, ?_, ?_, ⟨by omega, fun a h1 h2 => by omega⟩⟩ <;> (first | (simp (maxSteps := 5000000) -dsimp only [gr, Nat.reduceEqDiff, Nat.reduceLT, Nat.reduceAdd, Nat.reduceMod, Nat.reduceBEq, sid_mod, sid_ne1, sid_ne2, sid_inj]; first | done | rfl | (simp; done)) | assumption | rfl)) ?_
  intro i sa ⟨h1a, h9a, h10a, h11a, hIa⟩
  obtain ⟨hi, hall⟩ := hIa
  simp (maxSteps := 5000000) -dsimp only [↓gp, gq, reduceCtorEq, Nat.reduceEqDiff, Nat.reduceLT, Nat.reduceLeDiff, Nat.reduceAdd, Nat.reduceMul, Nat.reduceSub, Nat.reduceBEq, Int.reduceToNat, Int.reduceLE, Int.reduceLT, Int.reduceNeg, Nat.reduceMod, sid_ne1, sid_ne2, sid_inj, sid_mod, gT, TK.isInt, TK.agg, Array.toList, h1a, h9a, h10a, h11a]
  refine ⟨fun h => ⟨h, h, ?_⟩, fun h => ?_⟩
  · have hr := hsq.row i h
    refine loop_of (fun (j : Nat) s => s.sl 1 = int d ∧ s.sl 5 = int i ∧ s.sl 9 = int2 M ∧ s.sl 10 = int M.length ∧ s.sl 11 = int i ∧ s.sl 16 = .sl false 1 (iL (M.getD i [])) ∧ s.sl 17 = int M.length ∧ s.sl 18 = int j ∧ (j ≤ M.length ∧ (1 ≤ i → ∀ b, b < j → linAt M d i b))) (fun j => M.length - j) (0) (by refine ⟨?_, ?_, ?_, ?_, ?_, ?_, ?_, ?_, ⟨by omega, fun h1 b h2 => by omega⟩⟩ <;> (first | (simp (maxSteps := 5000000) -dsimp only [gr, Nat.reduceEqDiff, Nat.reduceLT, Nat.reduceAdd, Nat.reduceMod, Nat.reduceBEq, sid_mod, sid_ne1, sid_ne2, sid_inj, h1a, h9a, h10a, h11a, hr]; first | done | rfl | (simp; done)) | assumption | rfl)) ?_
    intro j sb ⟨h1b, h5b, h9b, h10b, h11b, h16b, h17b, h18b, hIb⟩
    obtain ⟨hj, hrow⟩ := hIb
    have hw1 : j < M.length → IntKind.i64.wrap ((j : Int) - (i : Int)) = (j : Int) - i := fun h => wrap_id (by omega) (by omega)
    have hw2 : j < M.length → IntKind.i64.wrap ((j : Int) - (i : Int) + 1) = (j : Int) - i + 1 := fun h => wrap_id (by omega) (by omega)
    by_cases h2 : j < M.length
    · simp (maxSteps := 5000000) -dsimp only [↓gp, gq, reduceCtorEq, Nat.reduceEqDiff, Nat.reduceLT, Nat.reduceLeDiff, Nat.reduceAdd, Nat.reduceMul, Nat.reduceSub, Nat.reduceBEq, Int.reduceToNat, Int.reduceLE, Int.reduceLT, Int.reduceNeg, Nat.reduceMod, sid_ne1, sid_ne2, sid_inj, sid_mod, gT, TK.isInt, TK.agg, Array.toList, h1b, h5b, h9b, h10b, h11b, h16b, h17b, h18b, hr, hw1 h2, hw2 h2]
      have go : (1 ≤ i → linAt M d i j) → 1 ≤ i → ∀ b, b < j + 1 → linAt M d i b := fun h0 h1 b hb => by
        rcases Nat.lt_succ_iff_lt_or_eq.1 hb with hb | rfl
        · exact hrow h1 b hb
        · exact h0 h1
      refine ⟨fun _ => ⟨h2, h2, fun h3 => ⟨fun h4 => ⟨fun h5 => linM_no fun hg => ?_, fun h5 => ?_⟩, fun h4 => ?_⟩, fun h3 => ?_⟩, fun h => absurd h2 h⟩
      · rcases hg i (by omega) h j h2 with e | e
        · rw [e] at h4; simp at h4
        · rw [e] at h5; simp at h5
      · have hc := go fun _ => .inr (by simpa using h5)
        exact again_of (j + 1) (by refine ⟨?_, ?_, ?_, ?_, ?_, ?_, ?_, ?_, ⟨by omega, hc⟩⟩ <;> (first | (simp (maxSteps := 5000000) -dsimp only [gr, Nat.reduceEqDiff, Nat.reduceLT, Nat.reduceAdd, Nat.reduceMod, Nat.reduceBEq, sid_mod, sid_ne1, sid_ne2, sid_inj, h1b, h5b, h9b, h10b, h11b, h16b, h17b, h18b, wrap_nat h2 (by omega)]; first | done | rfl | (simp; done)) | assumption | rfl)) (by first | omega | (simp only; omega) | (dsimp only; omega) | (show _ < _; simp; omega))
      · have hc := go fun _ => .inl (by simpa using h4)
        exact again_of (j + 1) (by refine ⟨?_, ?_, ?_, ?_, ?_, ?_, ?_, ?_, ⟨by omega, hc⟩⟩ <;> (first | (simp (maxSteps := 5000000) -dsimp only [gr, Nat.reduceEqDiff, Nat.reduceLT, Nat.reduceAdd, Nat.reduceMod, Nat.reduceBEq, sid_mod, sid_ne1, sid_ne2, sid_inj, h1b, h5b, h9b, h10b, h11b, h16b, h17b, h18b, wrap_nat h2 (by omega)]; first | done | rfl | (simp; done)) | assumption | rfl)) (by first | omega | (simp only; omega) | (dsimp only; omega) | (show _ < _; simp; omega))
      · have hc := go fun _ => by omega
        exact again_of (j + 1) (by refine ⟨?_, ?_, ?_, ?_, ?_, ?_, ?_, ?_, ⟨by omega, hc⟩⟩ <;> (first | (simp (maxSteps := 5000000) -dsimp only [gr, Nat.reduceEqDiff, Nat.reduceLT, Nat.reduceAdd, Nat.reduceMod, Nat.reduceBEq, sid_mod, sid_ne1, sid_ne2, sid_inj, h1b, h5b, h9b, h10b, h11b, h16b, h17b, h18b, wrap_nat h2 (by omega)]; first | done | rfl | (simp; done)) | assumption | rfl)) (by first | omega | (simp only; omega) | (dsimp only; omega) | (show _ < _; simp; omega))
    · simp (maxSteps := 5000000) -dsimp only [↓gp, gq, reduceCtorEq, Nat.reduceEqDiff, Nat.reduceLT, Nat.reduceLeDiff, Nat.reduceAdd, Nat.reduceMul, Nat.reduceSub, Nat.reduceBEq, Int.reduceToNat, Int.reduceLE, Int.reduceLT, Int.reduceNeg, Nat.reduceMod, sid_ne1, sid_ne2, sid_inj, sid_mod, gT, TK.isInt, TK.agg, Array.toList, h1b, h5b, h9b, h10b, h11b, h16b, h17b, h18b, hr]
      refine ⟨fun h => absurd h h2, fun _ => ?_⟩
      exact again_of (i + 1) (by refine ⟨?_, ?_, ?_, ?_, ⟨by omega, fun a h1 h3 b hb => by
        by_cases e : a = i
        · subst e; exact hrow h1 b (by omega)
        · exact hall a h1 (by omega) b hb⟩⟩ <;> (first | (simp (maxSteps := 5000000) -dsimp only [gr, Nat.reduceEqDiff, Nat.reduceLT, Nat.reduceAdd, Nat.reduceMod, Nat.reduceBEq, sid_mod, sid_ne1, sid_ne2, sid_inj, h1a, h9a, h10a, h11a, h1b, h5b, h9b, h10b, h11b, h16b, h17b, h18b, wrap_nat h (by omega)]; first | done | rfl | (simp; done)) | assumption | rfl)) (by first | omega | (simp only; omega) | (dsimp only; omega) | (show _ < _; simp; omega))
  · rw [linM_yes (fun a h1 h2 => hall a h1 (by omega))]
noncomputable def linO (n : Int) (xs : List Int) (p d : Int) : Bool := decide (0 < (betR n xs p).length) && linM (betR n xs p) d
theorem c_impl_HasLinear (n : Int) (xs : List Int) (p d : Int) : AC Try.prog 98 [.ag [int n, ints xs], int p, int d] (.im (bool (linO n xs p d))) := by
  refine AC.go (rs := [.tmp 6]) T_ok mixed Try.func98 rfl rfl rfl (by kernel_rfl) fun hl => ?_
  simp (maxSteps := 5000000) -dsimp only [↓gp, gq, reduceCtorEq, Nat.reduceEqDiff, Nat.reduceLT, Nat.reduceLeDiff, Nat.reduceAdd, Nat.reduceMul, Nat.reduceSub, Nat.reduceBEq, Int.reduceToNat, Int.reduceLE, Int.reduceLT, Int.reduceNeg, Nat.reduceMod, sid_ne1, sid_ne2, sid_inj, sid_mod, gT, TK.isInt, TK.agg, Array.toList]
  refine askK_of (c_impl_BettiTableF n xs p) ?_
  have hsq := betR_sq n xs p
  unfold linO
  generalize betR n xs p = M at *
  have hl7 := hsq.len
  simp (maxSteps := 5000000) -dsimp only [↓gp, gq, reduceCtorEq, Nat.reduceEqDiff, Nat.reduceLT, Nat.reduceLeDiff, Nat.reduceAdd, Nat.reduceMul, Nat.reduceSub, Nat.reduceBEq, Int.reduceToNat, Int.reduceLE, Int.reduceLT, Int.reduceNeg, Nat.reduceMod, sid_ne1, sid_ne2, sid_inj, sid_mod, gT, TK.isInt, TK.agg, Array.toList]
  refine ⟨fun h => askK_of (c_impl_isLinearTable M d hsq) ?_, fun h => ?_⟩
  · simp (maxSteps := 5000000) -dsimp only [↓gp, gq, reduceCtorEq, Nat.reduceEqDiff, Nat.reduceLT, Nat.reduceLeDiff, Nat.reduceAdd, Nat.reduceMul, Nat.reduceSub, Nat.reduceBEq, Int.reduceToNat, Int.reduceLE, Int.reduceLT, Int.reduceNeg, Nat.reduceMod, sid_ne1, sid_ne2, sid_inj, sid_mod, gT, TK.isInt, TK.agg, Array.toList]
    have h : 0 < M.length := by omega
    simp [h]
  · have : M.length = 0 := by omega
    simp [this]
theorem c_spec_HasLinear (n : Int) (xs : List Int) (p d : Int) : AC Try.prog 96 [.ag [int n, ints xs], int p, int d] (.im (bool (linO n xs p d))) := by
  refine AC.go (rs := [.tmp 6]) T_ok mixed Try.func96 rfl rfl rfl (by kernel_rfl) fun hl => ?_
  simp (maxSteps := 5000000) -dsimp only [↓gp, gq, reduceCtorEq, Nat.reduceEqDiff, Nat.reduceLT, Nat.reduceLeDiff, Nat.reduceAdd, Nat.reduceMul, Nat.reduceSub, Nat.reduceBEq, Int.reduceToNat, Int.reduceLE, Int.reduceLT, Int.reduceNeg, Nat.reduceMod, sid_ne1, sid_ne2, sid_inj, sid_mod, gT, TK.isInt, TK.agg, Array.toList]
  refine askK_of (c_spec_BettiTableF n xs p) ?_
  have hsq := betR_sq n xs p
  unfold linO
  generalize betR n xs p = M at *
  have hl7 := hsq.len
  simp (maxSteps := 5000000) -dsimp only [↓gp, gq, reduceCtorEq, Nat.reduceEqDiff, Nat.reduceLT, Nat.reduceLeDiff, Nat.reduceAdd, Nat.reduceMul, Nat.reduceSub, Nat.reduceBEq, Int.reduceToNat, Int.reduceLE, Int.reduceLT, Int.reduceNeg, Nat.reduceMod, sid_ne1, sid_ne2, sid_inj, sid_mod, gT, TK.isInt, TK.agg, Array.toList]
  refine loop_of (fun (i : Nat) s => s.sl 2 = int d ∧ s.sl 7 = .own 12 1 ∧ s.rw 12 = ⟨1, .sli 31 1 false (iLL M)⟩ ∧ s.sl 8 = int i ∧ (1 ≤ i ∧ (i ≤ M.length ∨ M.length = 0) ∧ ∀ a, 1 ≤ a → a < i → ∀ j, j < M.length → linAt M d a j)) (fun i => M.length - i) (1) (by refine ⟨?_, ?_, ?_, ?_, ⟨by omega, by omega, fun a h1 h2 => by omega⟩⟩ <;> (first | (simp (maxSteps := 5000000) -dsimp only [gr, Nat.reduceEqDiff, Nat.reduceLT, Nat.reduceAdd, Nat.reduceMod, Nat.reduceBEq, sid_mod, sid_ne1, sid_ne2, sid_inj]; first | done | rfl | (simp; done)) | assumption | rfl)) ?_
  intro i sa ⟨h2a, h7a, r12a, h8a, hIa⟩
  obtain ⟨hi, hi2, hall⟩ := hIa
  simp (maxSteps := 5000000) -dsimp only [↓gp, gq, reduceCtorEq, Nat.reduceEqDiff, Nat.reduceLT, Nat.reduceLeDiff, Nat.reduceAdd, Nat.reduceMul, Nat.reduceSub, Nat.reduceBEq, Int.reduceToNat, Int.reduceLE, Int.reduceLT, Int.reduceNeg, Nat.reduceMod, sid_ne1, sid_ne2, sid_inj, sid_mod, gT, TK.isInt, TK.agg, Array.toList, h2a, h7a, r12a, h8a]
  refine ⟨fun h => ?_, fun h => ?_⟩
  · have hr := hsq.row i h
    refine loop_of (fun (j : Nat) s => s.sl 2 = int d ∧ s.sl 7 = .own 12 1 ∧ s.rw 12 = ⟨1, .sli 31 1 false (iLL M)⟩ ∧ s.sl 8 = int i ∧ s.sl 9 = int j ∧ (j ≤ M.length ∧ (1 ≤ i → ∀ b, b < j → linAt M d i b))) (fun j => M.length - j) (0) (by refine ⟨?_, ?_, ?_, ?_, ?_, ⟨by omega, fun h1 b h2 => by omega⟩⟩ <;> (first | (simp (maxSteps := 5000000) -dsimp only [gr, Nat.reduceEqDiff, Nat.reduceLT, Nat.reduceAdd, Nat.reduceMod, Nat.reduceBEq, sid_mod, sid_ne1, sid_ne2, sid_inj, h2a, h7a, r12a, h8a]; first | done | rfl | (simp; done)) | assumption | rfl)) ?_
    intro j sb ⟨h2b, h7b, r12b, h8b, h9b, hIb⟩
    obtain ⟨hj, hrow⟩ := hIb
    have hw1 : j < M.length → IntKind.i64.wrap ((j : Int) - (i : Int)) = (j : Int) - i := fun h => wrap_id (by omega) (by omega)
    have hw2 : j < M.length → IntKind.i64.wrap ((j : Int) - (i : Int) + 1) = (j : Int) - i + 1 := fun h => wrap_id (by omega) (by omega)
    by_cases h2 : j < M.length
    · have hM : decide (M.length > 0) = true := decide_eq_true (by omega)
      simp (maxSteps := 5000000) -dsimp only [↓gp, gq, reduceCtorEq, Nat.reduceEqDiff, Nat.reduceLT, Nat.reduceLeDiff, Nat.reduceAdd, Nat.reduceMul, Nat.reduceSub, Nat.reduceBEq, Int.reduceToNat, Int.reduceLE, Int.reduceLT, Int.reduceNeg, Nat.reduceMod, sid_ne1, sid_ne2, sid_inj, sid_mod, gT, TK.isInt, TK.agg, Array.toList, h2b, h7b, r12b, h8b, h9b, hr, hw1 h2, hw2 h2]
      have go : (1 ≤ i → linAt M d i j) → 1 ≤ i → ∀ b, b < j + 1 → linAt M d i b := fun h0 h1 b hb => by
        rcases Nat.lt_succ_iff_lt_or_eq.1 hb with hb | rfl
        · exact hrow h1 b hb
        · exact h0 h1
      refine ⟨fun _ => ⟨h, h, h2, h2, fun h4 => ⟨fun h5 => ?_, fun h5 => ?_⟩, fun h4 => ?_⟩, fun h => absurd h2 h⟩
      · have : linM M d = false := linM_no fun hg => by
          rcases hg i (by omega) h j h2 with e | e
          · rw [e] at h4; simp at h4
          · rw [e] at h5; simp at h5
        rw [this]; simp
      · have hc := go fun _ => .inr (by simpa using h5)
        exact again_of (j + 1) (by refine ⟨?_, ?_, ?_, ?_, ?_, ⟨by omega, hc⟩⟩ <;> (first | (simp (maxSteps := 5000000) -dsimp only [gr, Nat.reduceEqDiff, Nat.reduceLT, Nat.reduceAdd, Nat.reduceMod, Nat.reduceBEq, sid_mod, sid_ne1, sid_ne2, sid_inj, h2b, h7b, r12b, h8b, h9b, wrap_nat h2 (by omega)]; first | done | rfl | (simp; done)) | assumption | rfl)) (by first | omega | (simp only; omega) | (dsimp only; omega) | (show _ < _; simp; omega))
      · have hc := go fun _ => .inl (by simpa using h4)
        exact again_of (j + 1) (by refine ⟨?_, ?_, ?_, ?_, ?_, ⟨by omega, hc⟩⟩ <;> (first | (simp (maxSteps := 5000000) -dsimp only [gr, Nat.reduceEqDiff, Nat.reduceLT, Nat.reduceAdd, Nat.reduceMod, Nat.reduceBEq, sid_mod, sid_ne1, sid_ne2, sid_inj, h2b, h7b, r12b, h8b, h9b, wrap_nat h2 (by omega)]; first | done | rfl | (simp; done)) | assumption | rfl)) (by first | omega | (simp only; omega) | (dsimp only; omega) | (show _ < _; simp; omega))
    · simp (maxSteps := 5000000) -dsimp only [↓gp, gq, reduceCtorEq, Nat.reduceEqDiff, Nat.reduceLT, Nat.reduceLeDiff, Nat.reduceAdd, Nat.reduceMul, Nat.reduceSub, Nat.reduceBEq, Int.reduceToNat, Int.reduceLE, Int.reduceLT, Int.reduceNeg, Nat.reduceMod, sid_ne1, sid_ne2, sid_inj, sid_mod, gT, TK.isInt, TK.agg, Array.toList, h2b, h7b, r12b, h8b, h9b, hr]
      refine ⟨fun h => absurd h h2, fun _ => ?_⟩
      exact again_of (i + 1) (by refine ⟨?_, ?_, ?_, ?_, ⟨by omega, by omega, fun a h1 h3 b hb => by
        by_cases e : a = i
        · subst e; exact hrow h1 b (by omega)
        · exact hall a h1 (by omega) b hb⟩⟩ <;> (first | (simp (maxSteps := 5000000) -dsimp only [gr, Nat.reduceEqDiff, Nat.reduceLT, Nat.reduceAdd, Nat.reduceMod, Nat.reduceBEq, sid_mod, sid_ne1, sid_ne2, sid_inj, h2a, h7a, r12a, h8a, h2b, h7b, r12b, h8b, h9b, wrap_nat h (by omega)]; first | done | rfl | (simp; done)) | assumption | rfl)) (by first | omega | (simp only; omega) | (dsimp only; omega) | (show _ < _; simp; omega))
  · have : linM M d = true := linM_yes fun a h1 h2 => hall a h1 (by omega)
    rw [this]
    simp
end Go.Proofs.Ytnfpeinbdfmlnaa

namespace Go.Proofs.Ytnfpeinbdfmlnaa
open Go.Abs
set_option linter.unusedSimpArgs false
set_option linter.unusedVariables false

end Go.Proofs.Ytnfpeinbdfmlnaa

namespace Go.Proofs.Ytnfpeinbdfmlnaa
open Go.Abs
set_option linter.unusedSimpArgs false
set_option linter.unusedVariables false

end Go.Proofs.Ytnfpeinbdfmlnaa

namespace Go.Proofs.Ytnfpeinbdfmlnaa
open Go.Abs
set_option linter.unusedSimpArgs false
set_option linter.unusedVariables false

end Go.Proofs.Ytnfpeinbdfmlnaa

namespace Go.Proofs.Ytnfpeinbdfmlnaa
open Go.Abs
set_option linter.unusedSimpArgs false
set_option linter.unusedVariables false

end Go.Proofs.Ytnfpeinbdfmlnaa

namespace Go.Proofs.Ytnfpeinbdfmlnaa
open Go.Abs
set_option linter.unusedSimpArgs false
set_option linter.unusedVariables false

end Go.Proofs.Ytnfpeinbdfmlnaa

namespace Go.Proofs.Ytnfpeinbdfmlnaa
open Go.Abs
set_option linter.unusedSimpArgs false
set_option linter.unusedVariables false

end Go.Proofs.Ytnfpeinbdfmlnaa

namespace Go.Proofs.Ytnfpeinbdfmlnaa
open Go.Abs
set_option linter.unusedSimpArgs false
set_option linter.unusedVariables false

theorem max_after {f : Nat → Bool} {l1 l2 : List Nat} {s : Nat} (h : ordN f = l1 ++ s :: l2) : (∃ t, t ∈ l2 ∧ s &&& t = s) ↔ extB f true s = false := by
  have hpw := ordN_pw f
  rw [h, List.pairwise_append] at hpw
  have hp2 := List.pairwise_cons.1 hpw.2.1
  have hs : s < 64 ∧ f s = true := mem_ordN.1 (by rw [h]; simp)
  constructor
  · rintro ⟨t, ht, hst⟩
    have hm : t < 64 ∧ f t = true := mem_ordN.1 (by rw [h]; simp [ht])
    cases hx : extB f true s with
    | false => rfl
    | true =>
      have := extB_iff'.1 hx t hm.1 hm.2 hst
      subst this
      exact absurd (hp2.1 t ht) befN_irrefl
  · intro hx
    have : ¬ ∀ t, t < 64 → f t = true → s &&& t = s → t = s := fun h => by rw [extB_iff'.2 h] at hx; cases hx
    obtain ⟨t, ht⟩ := Classical.not_forall.1 this
    have h1 : t < 64 := Classical.byContradiction fun h => ht fun h2 => absurd h2 h
    have h2 : f t = true := Classical.byContradiction fun h => ht fun _ h2 => absurd h2 h
    have h3 : s &&& t = s := Classical.byContradiction fun h => ht fun _ _ h2 => absurd h2 h
    have h4 : t ≠ s := fun e => ht fun _ _ _ => e
    have hlt := pop_sub h1 hs.1 h3 (Ne.symm h4)
    have hm : t ∈ l1 ++ s :: l2 := h ▸ mem_ordN.2 ⟨h1, h2⟩
    rcases List.mem_append.1 hm with hm | hm
    · have := hpw.2.2 t hm s (by simp)
      unfold befN at this
      omega
    · rcases List.mem_cons.1 hm with hm | hm
      · exact absurd hm h4
      · exact ⟨t, hm, h3⟩
theorem c_impl_maximalIn (G : Nat) (hG : G < 18446744073709551616) : AC Try.prog 184 [u64 G] (.fr 3 1 (iL (ofN (extN G.testBit true)))) := by
  refine AC.go (rs := [.tmp 2]) T_ok mixed Try.func184 rfl rfl rfl (by kernel_rfl) fun hl => ?_
  simp (maxSteps := 5000000) -dsimp only [↓gp, gq, reduceCtorEq, Nat.reduceEqDiff, Nat.reduceLT, Nat.reduceLeDiff, Nat.reduceAdd, Nat.reduceMul, Nat.reduceSub, Nat.reduceBEq, Int.reduceToNat, Int.reduceLE, Int.reduceLT, Int.reduceNeg, Nat.reduceMod, sid_ne1, sid_ne2, sid_inj, sid_mod, gT, TK.isInt, TK.agg, Array.toList]
  refine askK_of (c_impl_setsIn G hG) ?_
  simp (maxSteps := 5000000) -dsimp only [↓gp, gq, reduceCtorEq, Nat.reduceEqDiff, Nat.reduceLT, Nat.reduceLeDiff, Nat.reduceAdd, Nat.reduceMul, Nat.reduceSub, Nat.reduceBEq, Int.reduceToNat, Int.reduceLE, Int.reduceLT, Int.reduceNeg, Nat.reduceMod, sid_ne1, sid_ne2, sid_inj, sid_mod, gT, TK.isInt, TK.agg, Array.toList, ofN_length]
  have hfull := ordN_len G.testBit
  have hmem : ∀ k, k < (ordN G.testBit).length → (ordN G.testBit).getD k 0 < 64 := fun k hk => (mem_ordN.1 (getD_mem 0 hk)).1
  have hmax : ∀ k, k < (ordN G.testBit).length → ((∃ t, t ∈ (ordN G.testBit).drop (k + 1) ∧ (ordN G.testBit).getD k 0 &&& t = (ordN G.testBit).getD k 0) ↔ extB G.testBit true ((ordN G.testBit).getD k 0) = false) := fun k hk => max_after (split_at hk)
  unfold extN
  generalize ordN G.testBit = all at *
  refine loop_of (fun (za : Nat × Nat × Bool) s => match za with | (k, v, fz) => s.sl 3 = .own 11 1 ∧ s.rw 11 = ⟨1, .sli 3 1 fz (iL (ofN all))⟩ ∧ s.sl 4 = .own 4 v ∧ s.rw 4 = ⟨v, .sli 3 1 false (iL (ofN ((all.take k).filter (extB G.testBit true))))⟩ ∧ s.sl 12 = .own 11 1 ∧ s.sl 13 = int all.length ∧ s.sl 14 = int k ∧ (k ≤ all.length)) (fun (k, v, fz) => all.length - k) ((0, 1, false)) (by refine ⟨?_, ?_, ?_, ?_, ?_, ?_, ?_, by simp⟩ <;> (first | (simp (maxSteps := 5000000) -dsimp only [gr, Nat.reduceEqDiff, Nat.reduceLT, Nat.reduceAdd, Nat.reduceMod, Nat.reduceBEq, sid_mod, sid_ne1, sid_ne2, sid_inj, ofN_length]; first | done | rfl | (simp; done)) | assumption | rfl)) ?_
  intro (k, v, fz) sa ⟨h3a, r11a, h4a, r4a, h12a, h13a, h14a, hIa⟩
  have hflen : ((all.take k).filter (extB G.testBit true)).length ≤ k := Nat.le_trans filt_len (by simp; omega)
  by_cases hk : k < all.length
  · have hs := hmem k hk
    have hge : (ofN all).getD k 0 = ((all.getD k 0 : Nat) : Int) := ofN_getD hk
    have hwk := wrap_nat hk (by omega)
    have hdrop : ∀ j, j < (all.drop (k + 1)).length → ((all.drop (k + 1)).getD j 0) < 64 ∧ (ofN (all.drop (k + 1))).getD j 0 = (((all.drop (k + 1)).getD j 0 : Nat) : Int) := fun j hj => ⟨by
      have hm := List.mem_of_mem_drop (getD_mem 0 hj)
      obtain ⟨i, hi, e⟩ := mem_getD 0 hm
      rw [← e]; exact hmem i hi, ofN_getD hj⟩
    have hdl : (all.drop (k + 1)).length ≤ 448 := by simp; omega
    have hsub : ∀ j, j < (all.drop (k + 1)).length → (iandnot .i64 (all.getD k 0 : Nat) ((ofN (all.drop (k + 1))).getD j 0) = 0 ↔ all.getD k 0 &&& (all.drop (k + 1)).getD j 0 = all.getD k 0) := fun j hj => by
      have hd := hdrop j hj
      rw [hd.2, iandnot_nat (by omega) (by omega), ← xor_and_zero]
      omega
    have hofd : (ofN all).drop (k + 1) = ofN (all.drop (k + 1)) := by unfold ofN; rw [List.map_drop]
    have hmk := hmax k hk
    have hyes : extB G.testBit true (all.getD k 0) = true → ofN ((all.take (k + 1)).filter (extB G.testBit true)) = ofN ((all.take k).filter (extB G.testBit true)) ++ [((all.getD k 0 : Nat) : Int)] := fun h => by rw [filt_yes hk h, ofN_append, ofN_one]
    have hno : extB G.testBit true (all.getD k 0) = false → ofN ((all.take (k + 1)).filter (extB G.testBit true)) = ofN ((all.take k).filter (extB G.testBit true)) := fun h => by rw [filt_no hk h]
    cases fz with
    | false =>
      simp (maxSteps := 5000000) -dsimp only [↓gp, gq, reduceCtorEq, Nat.reduceEqDiff, Nat.reduceLT, Nat.reduceLeDiff, Nat.reduceAdd, Nat.reduceMul, Nat.reduceSub, Nat.reduceBEq, Int.reduceToNat, Int.reduceLE, Int.reduceLT, Int.reduceNeg, Nat.reduceMod, sid_ne1, sid_ne2, sid_inj, sid_mod, gT, TK.isInt, TK.agg, Array.toList, h3a, r11a, h4a, r4a, h12a, h13a, h14a, ofN_length, hge, hwk, Int.toNat_natCast, hofd]
      refine ⟨fun _ => ⟨hk, hk, by omega, ?_⟩, fun h => absurd hk h⟩
      refine loop_of (fun (j : Nat) s => s.sl 3 = .own 11 1 ∧ s.rw 11 = ⟨1, .sli 3 1 true (iL (ofN all))⟩ ∧ s.sl 4 = .own 4 v ∧ s.rw 4 = ⟨v, .sli 3 1 false (iL (ofN ((all.take k).filter (extB G.testBit true))))⟩ ∧ s.sl 12 = .own 11 1 ∧ s.sl 13 = int all.length ∧ s.sl 14 = int k ∧ s.sl 6 = int (all.getD k 0 : Nat) ∧ s.sl 7 = .v (.bool false) ∧ s.sl 22 = .sl true 1 (iL (ofN (all.drop (k + 1)))) ∧ s.sl 23 = int (all.drop (k + 1)).length ∧ s.sl 24 = int j ∧ (j ≤ (all.drop (k + 1)).length ∧ ∀ i, i < j → all.getD k 0 &&& (all.drop (k + 1)).getD i 0 ≠ all.getD k 0)) (fun j => (all.drop (k + 1)).length - j) (0) (by refine ⟨?_, ?_, ?_, ?_, ?_, ?_, ?_, ?_, ?_, ?_, ?_, ?_, by simp⟩ <;> (first | (simp (maxSteps := 5000000) -dsimp only [gr, Nat.reduceEqDiff, Nat.reduceLT, Nat.reduceAdd, Nat.reduceMod, Nat.reduceBEq, sid_mod, sid_ne1, sid_ne2, sid_inj, h3a, r11a, h4a, r4a, h12a, h13a, h14a, ofN_length, hge, hwk, hofd]; first | done | rfl | (simp; done)) | assumption | rfl)) ?_
      intro j sb ⟨h3b, r11b, h4b, r4b, h12b, h13b, h14b, h6b, h7b, h22b, h23b, h24b, hIb⟩
      obtain ⟨hj, hall⟩ := hIb
      simp (maxSteps := 5000000) -dsimp only [↓gp, gq, reduceCtorEq, Nat.reduceEqDiff, Nat.reduceLT, Nat.reduceLeDiff, Nat.reduceAdd, Nat.reduceMul, Nat.reduceSub, Nat.reduceBEq, Int.reduceToNat, Int.reduceLE, Int.reduceLT, Int.reduceNeg, Nat.reduceMod, sid_ne1, sid_ne2, sid_inj, sid_mod, gT, TK.isInt, TK.agg, Array.toList, h3b, r11b, h4b, r4b, h12b, h13b, h14b, h6b, h7b, h22b, h23b, h24b, ofN_length, hge, hwk]
      refine ⟨fun h2 => ⟨h2, h2, fun he => ?_, fun he => ?_⟩, fun h2 => ?_⟩
      · have hm := (hsub j h2).1 (by simpa using he)
        have hx := hmk.1 ⟨_, getD_mem 0 h2, hm⟩
        have e := hno hx
        exact again_of ((k + 1, v, true)) (by refine ⟨?_, ?_, ?_, ?_, ?_, ?_, ?_, by dsimp only; omega⟩ <;> (first | (simp (maxSteps := 5000000) -dsimp only [gr, Nat.reduceEqDiff, Nat.reduceLT, Nat.reduceAdd, Nat.reduceMod, Nat.reduceBEq, sid_mod, sid_ne1, sid_ne2, sid_inj, h3a, r11a, h4a, r4a, h12a, h13a, h14a, h3b, r11b, h4b, r4b, h12b, h13b, h14b, h6b, h7b, h22b, h23b, h24b, hwk, e]; first | done | rfl | (simp; done)) | assumption | rfl)) (by first | omega | (simp only; omega) | (dsimp only; omega) | (show _ < _; simp; omega))
      · have hm : ¬ all.getD k 0 &&& (all.drop (k + 1)).getD j 0 = all.getD k 0 := fun h => by rw [(hsub j h2).2 h] at he; simp at he
        have hw2 := wrap_nat h2 (by omega)
        have hall2 : ∀ i, i < j + 1 → all.getD k 0 &&& (all.drop (k + 1)).getD i 0 ≠ all.getD k 0 := fun i hi => by
          rcases Nat.lt_succ_iff_lt_or_eq.1 hi with hi | rfl
          · exact hall i hi
          · exact hm
        exact again_of (j + 1) (by refine ⟨?_, ?_, ?_, ?_, ?_, ?_, ?_, ?_, ?_, ?_, ?_, ?_, ⟨by omega, hall2⟩⟩ <;> (first | (simp (maxSteps := 5000000) -dsimp only [gr, Nat.reduceEqDiff, Nat.reduceLT, Nat.reduceAdd, Nat.reduceMod, Nat.reduceBEq, sid_mod, sid_ne1, sid_ne2, sid_inj, h3b, r11b, h4b, r4b, h12b, h13b, h14b, h6b, h7b, h22b, h23b, h24b, hw2]; first | done | rfl | (simp; done)) | assumption | rfl)) (by first | omega | (simp only; omega) | (dsimp only; omega) | (show _ < _; simp; omega))
      · have hx : extB G.testBit true (all.getD k 0) = true := by
          cases hb : extB G.testBit true (all.getD k 0) with
          | true => rfl
          | false =>
            obtain ⟨t, ht, hst⟩ := hmk.2 hb
            obtain ⟨i, hi, rfl⟩ := mem_getD 0 ht
            exact absurd hst (hall i (by omega))
        have e := hyes hx
        exact ⟨by omega, again_of ((k + 1, v + 1, true)) (by refine ⟨?_, ?_, ?_, ?_, ?_, ?_, ?_, by dsimp only; omega⟩ <;> (first | (simp (maxSteps := 5000000) -dsimp only [gr, Nat.reduceEqDiff, Nat.reduceLT, Nat.reduceAdd, Nat.reduceMod, Nat.reduceBEq, sid_mod, sid_ne1, sid_ne2, sid_inj, h3a, r11a, h4a, r4a, h12a, h13a, h14a, h3b, r11b, h4b, r4b, h12b, h13b, h14b, h6b, h7b, h22b, h23b, h24b, hwk, e]; first | done | rfl | (simp; done)) | assumption | rfl)) (by first | omega | (simp only; omega) | (dsimp only; omega) | (show _ < _; simp; omega))⟩
    | true =>
      simp (maxSteps := 5000000) -dsimp only [↓gp, gq, reduceCtorEq, Nat.reduceEqDiff, Nat.reduceLT, Nat.reduceLeDiff, Nat.reduceAdd, Nat.reduceMul, Nat.reduceSub, Nat.reduceBEq, Int.reduceToNat, Int.reduceLE, Int.reduceLT, Int.reduceNeg, Nat.reduceMod, sid_ne1, sid_ne2, sid_inj, sid_mod, gT, TK.isInt, TK.agg, Array.toList, h3a, r11a, h4a, r4a, h12a, h13a, h14a, ofN_length, hge, hwk, Int.toNat_natCast, hofd]
      refine ⟨fun _ => ⟨hk, hk, by omega, ?_⟩, fun h => absurd hk h⟩
      refine loop_of (fun (j : Nat) s => s.sl 3 = .own 11 1 ∧ s.rw 11 = ⟨1, .sli 3 1 true (iL (ofN all))⟩ ∧ s.sl 4 = .own 4 v ∧ s.rw 4 = ⟨v, .sli 3 1 false (iL (ofN ((all.take k).filter (extB G.testBit true))))⟩ ∧ s.sl 12 = .own 11 1 ∧ s.sl 13 = int all.length ∧ s.sl 14 = int k ∧ s.sl 6 = int (all.getD k 0 : Nat) ∧ s.sl 7 = .v (.bool false) ∧ s.sl 22 = .sl true 1 (iL (ofN (all.drop (k + 1)))) ∧ s.sl 23 = int (all.drop (k + 1)).length ∧ s.sl 24 = int j ∧ (j ≤ (all.drop (k + 1)).length ∧ ∀ i, i < j → all.getD k 0 &&& (all.drop (k + 1)).getD i 0 ≠ all.getD k 0)) (fun j => (all.drop (k + 1)).length - j) (0) (by refine ⟨?_, ?_, ?_, ?_, ?_, ?_, ?_, ?_, ?_, ?_, ?_, ?_, by simp⟩ <;> (first | (simp (maxSteps := 5000000) -dsimp only [gr, Nat.reduceEqDiff, Nat.reduceLT, Nat.reduceAdd, Nat.reduceMod, Nat.reduceBEq, sid_mod, sid_ne1, sid_ne2, sid_inj, h3a, r11a, h4a, r4a, h12a, h13a, h14a, ofN_length, hge, hwk, hofd]; first | done | rfl | (simp; done)) | assumption | rfl)) ?_
      intro j sb ⟨h3b, r11b, h4b, r4b, h12b, h13b, h14b, h6b, h7b, h22b, h23b, h24b, hIb⟩
      obtain ⟨hj, hall⟩ := hIb
      simp (maxSteps := 5000000) -dsimp only [↓gp, gq, reduceCtorEq, Nat.reduceEqDiff, Nat.reduceLT, Nat.reduceLeDiff, Nat.reduceAdd, Nat.reduceMul, Nat.reduceSub, Nat.reduceBEq, Int.reduceToNat, Int.reduceLE, Int.reduceLT, Int.reduceNeg, Nat.reduceMod, sid_ne1, sid_ne2, sid_inj, sid_mod, gT, TK.isInt, TK.agg, Array.toList, h3b, r11b, h4b, r4b, h12b, h13b, h14b, h6b, h7b, h22b, h23b, h24b, ofN_length, hge, hwk]
      refine ⟨fun h2 => ⟨h2, h2, fun he => ?_, fun he => ?_⟩, fun h2 => ?_⟩
      · have hm := (hsub j h2).1 (by simpa using he)
        have hx := hmk.1 ⟨_, getD_mem 0 h2, hm⟩
        have e := hno hx
        exact again_of ((k + 1, v, true)) (by refine ⟨?_, ?_, ?_, ?_, ?_, ?_, ?_, by dsimp only; omega⟩ <;> (first | (simp (maxSteps := 5000000) -dsimp only [gr, Nat.reduceEqDiff, Nat.reduceLT, Nat.reduceAdd, Nat.reduceMod, Nat.reduceBEq, sid_mod, sid_ne1, sid_ne2, sid_inj, h3a, r11a, h4a, r4a, h12a, h13a, h14a, h3b, r11b, h4b, r4b, h12b, h13b, h14b, h6b, h7b, h22b, h23b, h24b, hwk, e]; first | done | rfl | (simp; done)) | assumption | rfl)) (by first | omega | (simp only; omega) | (dsimp only; omega) | (show _ < _; simp; omega))
      · have hm : ¬ all.getD k 0 &&& (all.drop (k + 1)).getD j 0 = all.getD k 0 := fun h => by rw [(hsub j h2).2 h] at he; simp at he
        have hw2 := wrap_nat h2 (by omega)
        have hall2 : ∀ i, i < j + 1 → all.getD k 0 &&& (all.drop (k + 1)).getD i 0 ≠ all.getD k 0 := fun i hi => by
          rcases Nat.lt_succ_iff_lt_or_eq.1 hi with hi | rfl
          · exact hall i hi
          · exact hm
        exact again_of (j + 1) (by refine ⟨?_, ?_, ?_, ?_, ?_, ?_, ?_, ?_, ?_, ?_, ?_, ?_, ⟨by omega, hall2⟩⟩ <;> (first | (simp (maxSteps := 5000000) -dsimp only [gr, Nat.reduceEqDiff, Nat.reduceLT, Nat.reduceAdd, Nat.reduceMod, Nat.reduceBEq, sid_mod, sid_ne1, sid_ne2, sid_inj, h3b, r11b, h4b, r4b, h12b, h13b, h14b, h6b, h7b, h22b, h23b, h24b, hw2]; first | done | rfl | (simp; done)) | assumption | rfl)) (by first | omega | (simp only; omega) | (dsimp only; omega) | (show _ < _; simp; omega))
      · have hx : extB G.testBit true (all.getD k 0) = true := by
          cases hb : extB G.testBit true (all.getD k 0) with
          | true => rfl
          | false =>
            obtain ⟨t, ht, hst⟩ := hmk.2 hb
            obtain ⟨i, hi, rfl⟩ := mem_getD 0 ht
            exact absurd hst (hall i (by omega))
        have e := hyes hx
        exact ⟨by omega, again_of ((k + 1, v + 1, true)) (by refine ⟨?_, ?_, ?_, ?_, ?_, ?_, ?_, by dsimp only; omega⟩ <;> (first | (simp (maxSteps := 5000000) -dsimp only [gr, Nat.reduceEqDiff, Nat.reduceLT, Nat.reduceAdd, Nat.reduceMod, Nat.reduceBEq, sid_mod, sid_ne1, sid_ne2, sid_inj, h3a, r11a, h4a, r4a, h12a, h13a, h14a, h3b, r11b, h4b, r4b, h12b, h13b, h14b, h6b, h7b, h22b, h23b, h24b, hwk, e]; first | done | rfl | (simp; done)) | assumption | rfl)) (by first | omega | (simp only; omega) | (dsimp only; omega) | (show _ < _; simp; omega))⟩
  · simp (maxSteps := 5000000) -dsimp only [↓gp, gq, reduceCtorEq, Nat.reduceEqDiff, Nat.reduceLT, Nat.reduceLeDiff, Nat.reduceAdd, Nat.reduceMul, Nat.reduceSub, Nat.reduceBEq, Int.reduceToNat, Int.reduceLE, Int.reduceLT, Int.reduceNeg, Nat.reduceMod, sid_ne1, sid_ne2, sid_inj, sid_mod, gT, TK.isInt, TK.agg, Array.toList, h3a, r11a, h4a, r4a, h12a, h13a, h14a, ofN_length]
    refine ⟨fun h => absurd h hk, fun _ => ?_⟩
    have : k = all.length := by omega
    rw [this, List.take_length]
end Go.Proofs.Ytnfpeinbdfmlnaa

namespace Go.Proofs.Ytnfpeinbdfmlnaa
open Go.Abs
set_option linter.unusedSimpArgs false
set_option linter.unusedVariables false

theorem c_impl_complexOf (n : Int) (G : Nat) (hG : G < 18446744073709551616) : AC Try.prog 146 [int n, u64 G] (.ag [.im (int n), .fr 3 1 (iL (ofN (extN G.testBit true)))]) := by
  refine AC.go (rs := [.cell 4 57]) T_ok mixed Try.func146 rfl rfl rfl (by kernel_rfl) fun hl => ?_
  simp (maxSteps := 5000000) -dsimp only [↓gp, gq, reduceCtorEq, Nat.reduceEqDiff, Nat.reduceLT, Nat.reduceLeDiff, Nat.reduceAdd, Nat.reduceMul, Nat.reduceSub, Nat.reduceBEq, Int.reduceToNat, Int.reduceLE, Int.reduceLT, Int.reduceNeg, Nat.reduceMod, sid_ne1, sid_ne2, sid_inj, sid_mod, gT, TK.isInt, TK.agg, Array.toList]
  refine askK_of (c_impl_maximalIn G hG) ?_
  simp (maxSteps := 5000000) -dsimp only [↓gp, gq, reduceCtorEq, Nat.reduceEqDiff, Nat.reduceLT, Nat.reduceLeDiff, Nat.reduceAdd, Nat.reduceMul, Nat.reduceSub, Nat.reduceBEq, Int.reduceToNat, Int.reduceLE, Int.reduceLT, Int.reduceNeg, Nat.reduceMod, sid_ne1, sid_ne2, sid_inj, sid_mod, gT, TK.isInt, TK.agg, Array.toList]
/-- None of the sets lies within. -/
def avoidB (xs : List Int) (s : Nat) : Bool := xs.all fun x => !(x.toNat &&& s == x.toNat)
theorem avoidB_snoc {xs : List Int} {k s : Nat} (h : k < xs.length) : avoidB (xs.take (k + 1)) s = (avoidB (xs.take k) s && !((xs.getD k 0).toNat &&& s == (xs.getD k 0).toNat)) := by
  unfold avoidB
  rw [take_snoc 0 h, List.all_append]; simp
theorem avoid_test {x : Int} (hx : 0 ≤ x ∧ x < 64) {s : Nat} (hs : s < 64) : (iandnot .i64 x (s : Int) == 0) = (x.toNat &&& s == x.toNat) := by
  have e : x = ((x.toNat : Nat) : Int) := by omega
  have h := xor_and_zero (a := x.toNat) (b := s)
  rw [e, iandnot_nat (by omega) (by omega), Int.toNat_natCast]
  refine Bool.eq_iff_iff.2 ?_
  rw [beq_iff_eq, beq_iff_eq, ← h]
  omega
theorem avoid_test2 {x : Int} (hx : 0 ≤ x ∧ x < 64) {s : Nat} (hs : s < 64) : (iand .i64 x (s : Int) != x) = !(x.toNat &&& s == x.toNat) := by
  have e : x = ((x.toNat : Nat) : Int) := by omega
  rw [e, iand_nat (by omega) (by omega), Int.toNat_natCast]
  show (!(_ == _)) = _
  congr 1
  refine Bool.eq_iff_iff.2 ?_
  rw [beq_iff_eq, beq_iff_eq]
  omega
theorem c_impl_avoidsAll (xs : List Int) (u : Nat) (hx : okS xs) (hs : u < 64) : AC Try.prog 145 [int u, ints xs] (.im (bool (avoidB xs u))) := by
  refine AC.go (rs := [.tmp 4]) T_ok mixed Try.func145 rfl rfl rfl (by kernel_rfl) fun hl => ?_
  simp only [lens_cons, lens_nil, and_true, lens2_ag2, lens1_v, lens1_iL, lens2_iL, lens2_v, true_and] at hl
  simp (maxSteps := 5000000) -dsimp only [↓gp, gq, reduceCtorEq, Nat.reduceEqDiff, Nat.reduceLT, Nat.reduceLeDiff, Nat.reduceAdd, Nat.reduceMul, Nat.reduceSub, Nat.reduceBEq, Int.reduceToNat, Int.reduceLE, Int.reduceLT, Int.reduceNeg, Nat.reduceMod, sid_ne1, sid_ne2, sid_inj, sid_mod, gT, TK.isInt, TK.agg, Array.toList]
  refine loop_of (fun (k : Nat) s => s.sl 0 = int u ∧ s.sl 7 = ints xs ∧ s.sl 8 = int xs.length ∧ s.sl 9 = int k ∧ (k ≤ xs.length ∧ avoidB (xs.take k) u = true)) (fun k => xs.length - k) (0) (by refine ⟨?_, ?_, ?_, ?_, ⟨by omega, rfl⟩⟩ <;> (first | (simp (maxSteps := 5000000) -dsimp only [gr, Nat.reduceEqDiff, Nat.reduceLT, Nat.reduceAdd, Nat.reduceMod, Nat.reduceBEq, sid_mod, sid_ne1, sid_ne2, sid_inj]; first | done | rfl | (simp; done)) | assumption | rfl)) ?_
  intro k sa ⟨h0a, h7a, h8a, h9a, hIa⟩
  obtain ⟨hk, hz⟩ := hIa
  simp (maxSteps := 5000000) -dsimp only [↓gp, gq, reduceCtorEq, Nat.reduceEqDiff, Nat.reduceLT, Nat.reduceLeDiff, Nat.reduceAdd, Nat.reduceMul, Nat.reduceSub, Nat.reduceBEq, Int.reduceToNat, Int.reduceLE, Int.reduceLT, Int.reduceNeg, Nat.reduceMod, sid_ne1, sid_ne2, sid_inj, sid_mod, gT, TK.isInt, TK.agg, Array.toList, h0a, h7a, h8a, h9a]
  refine ⟨fun h => ⟨h, h, fun h0 => ?_, fun h0 => ?_⟩, fun h => ?_⟩
  · rw [avoid_test (okS_at hx h) hs] at h0
    cases hb : avoidB xs u with
    | false => rfl
    | true =>
      unfold avoidB at hb
      have := List.all_eq_true.1 hb _ (getD_mem 0 h)
      rw [h0] at this; cases this
  · rw [avoid_test (okS_at hx h) hs] at h0
    have hs2 := avoidB_snoc (s := u) h
    rw [h0, hz] at hs2
    exact again_of (k + 1) (by refine ⟨?_, ?_, ?_, ?_, ⟨by omega, hs2⟩⟩ <;> (first | (simp (maxSteps := 5000000) -dsimp only [gr, Nat.reduceEqDiff, Nat.reduceLT, Nat.reduceAdd, Nat.reduceMod, Nat.reduceBEq, sid_mod, sid_ne1, sid_ne2, sid_inj, h0a, h7a, h8a, h9a, wrap_nat h hl]; first | done | rfl | (simp; done)) | assumption | rfl)) (by first | omega | (simp only; omega) | (dsimp only; omega) | (show _ < _; simp; omega))
  · rw [List.take_of_length_le (by omega)] at hz
    rw [hz]
theorem c_impl_ApartComplex_1 (n : Int) (xs : List Int) (s : Nat) (hx : okS xs) (hs : s < 64) : AC Try.prog 144 [int s, .eref false [int n, ints xs] 0] (.im (bool (avoidB xs s))) := by
  refine AC.go (rs := [.tmp 3]) T_ok mixed Try.func144 rfl rfl rfl (by kernel_rfl) fun hl => ?_
  simp (maxSteps := 5000000) -dsimp only [↓gp, gq, reduceCtorEq, Nat.reduceEqDiff, Nat.reduceLT, Nat.reduceLeDiff, Nat.reduceAdd, Nat.reduceMul, Nat.reduceSub, Nat.reduceBEq, Int.reduceToNat, Int.reduceLE, Int.reduceLT, Int.reduceNeg, Nat.reduceMod, sid_ne1, sid_ne2, sid_inj, sid_mod, gT, TK.isInt, TK.agg, Array.toList]
  refine askK_of (c_impl_avoidsAll xs s hx hs) ?_
  simp (maxSteps := 5000000) -dsimp only [↓gp, gq, reduceCtorEq, Nat.reduceEqDiff, Nat.reduceLT, Nat.reduceLeDiff, Nat.reduceAdd, Nat.reduceMul, Nat.reduceSub, Nat.reduceBEq, Int.reduceToNat, Int.reduceLE, Int.reduceLT, Int.reduceNeg, Nat.reduceMod, sid_ne1, sid_ne2, sid_inj, sid_mod, gT, TK.isInt, TK.agg, Array.toList]
noncomputable def apF (n : Int) (xs : List Int) (s : Nat) : Bool := decide (s < 2 ^ n.toNat) && avoidB xs s
noncomputable def apL (n : Int) (xs : List Int) : List Int := if isGraph n xs = true then ofN (extN (apF n xs) true) else []
noncomputable def apN (n : Int) (xs : List Int) : Int := if isGraph n xs = true then n else 0
theorem graph_ok {n : Int} {xs : List Int} (h : isGraph n xs = true) : okS xs := fun x hx => inSet_lt ((graph_sets (isGraph_iff.1 h)).2.2.2 x hx)
theorem c_impl_ApartComplex (n : Int) (xs : List Int) : AC Try.prog 97 [.ag [int n, ints xs]] (.tup [.ag [.im (int (apN n xs)), .fr 3 1 (iL (apL n xs))], .im (bool (isGraph n xs))]) := by
  refine AC.go (rs := [.cell 2 57, .tmp 3]) T_ok mixed Try.func97 rfl rfl rfl (by kernel_rfl) fun hl => ?_
  simp (maxSteps := 5000000) -dsimp only [↓gp, gq, reduceCtorEq, Nat.reduceEqDiff, Nat.reduceLT, Nat.reduceLeDiff, Nat.reduceAdd, Nat.reduceMul, Nat.reduceSub, Nat.reduceBEq, Int.reduceToNat, Int.reduceLE, Int.reduceLT, Int.reduceNeg, Nat.reduceMod, sid_ne1, sid_ne2, sid_inj, sid_mod, gT, TK.isInt, TK.agg, Array.toList]
  refine askK_of (c_impl_IsGraph n xs) ?_
  simp (maxSteps := 5000000) -dsimp only [↓gp, gq, reduceCtorEq, Nat.reduceEqDiff, Nat.reduceLT, Nat.reduceLeDiff, Nat.reduceAdd, Nat.reduceMul, Nat.reduceSub, Nat.reduceBEq, Int.reduceToNat, Int.reduceLE, Int.reduceLT, Int.reduceNeg, Nat.reduceMod, sid_ne1, sid_ne2, sid_inj, sid_mod, gT, TK.isInt, TK.agg, Array.toList]
  unfold apN apL
  refine ⟨fun hg => ?_, fun hg => ?_⟩
  · have hg : isGraph n xs = false := by simpa using hg
    rw [hg]; exact ⟨rfl, rfl, rfl⟩
  · have hg : isGraph n xs = true := by simpa using hg
    have hx := graph_ok hg
    obtain ⟨h1, h6, _⟩ := isGraph_iff.1 hg
    obtain ⟨m, rfl⟩ : ∃ m : Nat, n = m := ⟨n.toNat, by omega⟩
    have h64 := two_pow_le (m := m) (by omega)
    refine askK_of (c_impl_pickSets m (by omega) _ [.eref false [int (m : Nat), ints xs] 0] (avoidB xs) (fun rw => rfl) fun s hs => c_impl_ApartComplex_1 _ xs s hx (by omega)) ?_
    simp (maxSteps := 5000000) -dsimp only [↓gp, gq, reduceCtorEq, Nat.reduceEqDiff, Nat.reduceLT, Nat.reduceLeDiff, Nat.reduceAdd, Nat.reduceMul, Nat.reduceSub, Nat.reduceBEq, Int.reduceToNat, Int.reduceLE, Int.reduceLT, Int.reduceNeg, Nat.reduceMod, sid_ne1, sid_ne2, sid_inj, sid_mod, gT, TK.isInt, TK.agg, Array.toList]
    refine askK_of (c_impl_complexOf m _ (mask_lt64 _ (by omega))) ?_
    have e : (maskF (avoidB xs) (2 ^ m)).testBit = apF m xs := funext fun s => by rw [maskF_bit]; rfl
    rw [e, if_pos hg, if_pos hg, hg]
    simp (maxSteps := 5000000) -dsimp only [↓gp, gq, reduceCtorEq, Nat.reduceEqDiff, Nat.reduceLT, Nat.reduceLeDiff, Nat.reduceAdd, Nat.reduceMul, Nat.reduceSub, Nat.reduceBEq, Int.reduceToNat, Int.reduceLE, Int.reduceLT, Int.reduceNeg, Nat.reduceMod, sid_ne1, sid_ne2, sid_inj, sid_mod, gT, TK.isInt, TK.agg, Array.toList]
theorem c_spec_l7From (n : Nat) (xs : List Int) (hn : n ≤ 6) (hx : okS xs) : AC Try.prog 141 [int n, ints xs] (.ag [.im (int n), .fr 3 1 (iL (ofN (extN (apF n xs) true)))]) := by
  refine AC.go (rs := [.cell 4 57]) T_ok mixed Try.func141 rfl rfl rfl (by kernel_rfl) fun hl => ?_
  simp only [lens_cons, lens_nil, and_true, lens2_ag2, lens1_v, lens1_iL, lens2_iL, lens2_v, true_and] at hl
  have h64 := two_pow_le hn
  have hsh : ishl .i64 1 (n : Int) = ((2 ^ n : Nat) : Int) := ishl_small hn
  have hun : IntKind.u64.wrap (n : Int) = (n : Int) := uwrap_id (by omega)
  simp (maxSteps := 5000000) -dsimp only [↓gp, gq, reduceCtorEq, Nat.reduceEqDiff, Nat.reduceLT, Nat.reduceLeDiff, Nat.reduceAdd, Nat.reduceMul, Nat.reduceSub, Nat.reduceBEq, Int.reduceToNat, Int.reduceLE, Int.reduceLT, Int.reduceNeg, Nat.reduceMod, sid_ne1, sid_ne2, sid_inj, sid_mod, gT, TK.isInt, TK.agg, Array.toList]
  refine loop_of (fun (za : Nat × Nat) s => match za with | (t, v) => s.sl 0 = int n ∧ s.sl 1 = ints xs ∧ s.sl 4 = .ref 4 1 0 ∧ s.rw 4 = ⟨1, .box 57 [int 0, .v (.slice none 0 0)]⟩ ∧ s.sl 5 = .own 9 v ∧ s.rw 9 = ⟨v, .sli 3 1 false (iL (ofN ((List.range t).filter (avoidB xs))))⟩ ∧ s.sl 6 = int t ∧ (t ≤ 2 ^ n)) (fun (t, v) => 2 ^ n - t) ((0, 1)) (by refine ⟨?_, ?_, ?_, ?_, ?_, ?_, ?_, by simp⟩ <;> (first | (simp (maxSteps := 5000000) -dsimp only [gr, Nat.reduceEqDiff, Nat.reduceLT, Nat.reduceAdd, Nat.reduceMod, Nat.reduceBEq, sid_mod, sid_ne1, sid_ne2, sid_inj]; first | done | rfl | (simp; done)) | assumption | rfl)) ?_
  intro (t, v) sa ⟨h0a, h1a, h4a, r4a, h5a, r9a, h6a, hIa⟩
  have hfl : ((List.range t).filter (avoidB xs)).length ≤ 64 := by
    have := List.length_filter_le (avoidB xs) (List.range t)
    rw [List.length_range] at this
    omega
  simp (maxSteps := 5000000) -dsimp only [↓gp, gq, reduceCtorEq, Nat.reduceEqDiff, Nat.reduceLT, Nat.reduceLeDiff, Nat.reduceAdd, Nat.reduceMul, Nat.reduceSub, Nat.reduceBEq, Int.reduceToNat, Int.reduceLE, Int.reduceLT, Int.reduceNeg, Nat.reduceMod, sid_ne1, sid_ne2, sid_inj, sid_mod, gT, TK.isInt, TK.agg, Array.toList, h0a, h1a, h4a, r4a, h5a, r9a, h6a, hsh, hun]
  refine ⟨fun h => ?_, fun h => ?_⟩
  · have hyes : avoidB xs t = true → ofN ((List.range (t + 1)).filter (avoidB xs)) = ofN ((List.range t).filter (avoidB xs)) ++ [(t : Int)] := fun h => by
      rw [List.range_succ, List.filter_append, ofN_append]
      simp [h, ofN]
    have hno : avoidB xs t = false → ofN ((List.range (t + 1)).filter (avoidB xs)) = ofN ((List.range t).filter (avoidB xs)) := fun h => by
      rw [List.range_succ, List.filter_append, ofN_append]
      simp [h, ofN]
    have hz : avoidB (xs.take 0) t = true := rfl
    refine loop_of (fun (k : Nat) s => s.sl 0 = int n ∧ s.sl 1 = ints xs ∧ s.sl 4 = .ref 4 1 0 ∧ s.rw 4 = ⟨1, .box 57 [int 0, .v (.slice none 0 0)]⟩ ∧ s.sl 5 = .own 9 v ∧ s.rw 9 = ⟨v, .sli 3 1 false (iL (ofN ((List.range t).filter (avoidB xs))))⟩ ∧ s.sl 6 = int t ∧ s.sl 7 = .v (.bool (avoidB (xs.take k) t)) ∧ s.sl 8 = int k ∧ (k ≤ xs.length)) (fun k => xs.length - k) (0) (by refine ⟨?_, ?_, ?_, ?_, ?_, ?_, ?_, ?_, ?_, by omega⟩ <;> (first | (simp (maxSteps := 5000000) -dsimp only [gr, Nat.reduceEqDiff, Nat.reduceLT, Nat.reduceAdd, Nat.reduceMod, Nat.reduceBEq, sid_mod, sid_ne1, sid_ne2, sid_inj, h0a, h1a, h4a, r4a, h5a, r9a, h6a, hz]; first | done | rfl | (simp; done)) | assumption | rfl)) ?_
    intro k sb ⟨h0b, h1b, h4b, r4b, h5b, r9b, h6b, h7b, h8b, hIb⟩
    by_cases hk : k < xs.length
    · have hs2 := avoidB_snoc (s := t) hk
      have htest := avoid_test2 (okS_at hx hk) (s := t) (by omega)
      simp (maxSteps := 5000000) -dsimp only [↓gp, gq, reduceCtorEq, Nat.reduceEqDiff, Nat.reduceLT, Nat.reduceLeDiff, Nat.reduceAdd, Nat.reduceMul, Nat.reduceSub, Nat.reduceBEq, Int.reduceToNat, Int.reduceLE, Int.reduceLT, Int.reduceNeg, Nat.reduceMod, sid_ne1, sid_ne2, sid_inj, sid_mod, gT, TK.isInt, TK.agg, Array.toList, h0b, h1b, h4b, r4b, h5b, r9b, h6b, h7b, h8b, htest]
      refine ⟨fun _ => ⟨by kernel_rfl, fun h3 => ⟨hk, hk, hk, hk, ?_⟩, fun h3 => ?_⟩, fun h => absurd hk h⟩
      · rw [h3, Bool.true_and] at hs2
        exact again_of (k + 1) (by refine ⟨?_, ?_, ?_, ?_, ?_, ?_, ?_, ?_, ?_, by omega⟩ <;> (first | (simp (maxSteps := 5000000) -dsimp only [gr, Nat.reduceEqDiff, Nat.reduceLT, Nat.reduceAdd, Nat.reduceMod, Nat.reduceBEq, sid_mod, sid_ne1, sid_ne2, sid_inj, h0b, h1b, h4b, r4b, h5b, r9b, h6b, h7b, h8b, wrap_nat hk (by omega), hs2]; first | done | rfl | (simp; done)) | assumption | rfl)) (by first | omega | (simp only; omega) | (dsimp only; omega) | (show _ < _; simp; omega))
      · rw [h3, Bool.false_and] at hs2
        exact again_of (k + 1) (by refine ⟨?_, ?_, ?_, ?_, ?_, ?_, ?_, ?_, ?_, by omega⟩ <;> (first | (simp (maxSteps := 5000000) -dsimp only [gr, Nat.reduceEqDiff, Nat.reduceLT, Nat.reduceAdd, Nat.reduceMod, Nat.reduceBEq, sid_mod, sid_ne1, sid_ne2, sid_inj, h0b, h1b, h4b, r4b, h5b, r9b, h6b, h7b, h8b, wrap_nat hk (by omega), hs2]; first | done | rfl | (simp; done)) | assumption | rfl)) (by first | omega | (simp only; omega) | (dsimp only; omega) | (show _ < _; simp; omega))
    · have ht : xs.take k = xs := List.take_of_length_le (by omega)
      rw [ht] at h7b
      simp (maxSteps := 5000000) -dsimp only [↓gp, gq, reduceCtorEq, Nat.reduceEqDiff, Nat.reduceLT, Nat.reduceLeDiff, Nat.reduceAdd, Nat.reduceMul, Nat.reduceSub, Nat.reduceBEq, Int.reduceToNat, Int.reduceLE, Int.reduceLT, Int.reduceNeg, Nat.reduceMod, sid_ne1, sid_ne2, sid_inj, sid_mod, gT, TK.isInt, TK.agg, Array.toList, h0b, h1b, h4b, r4b, h5b, r9b, h6b, h7b, h8b]
      refine ⟨fun h => absurd h hk, fun _ => ⟨fun hb => ?_, fun hb => ?_⟩⟩
      · have e := hyes hb
        exact ⟨by rw [ofN_length]; omega, again_of ((t + 1, v + 1)) (by refine ⟨?_, ?_, ?_, ?_, ?_, ?_, ?_, by dsimp only; omega⟩ <;> (first | (simp (maxSteps := 5000000) -dsimp only [gr, Nat.reduceEqDiff, Nat.reduceLT, Nat.reduceAdd, Nat.reduceMod, Nat.reduceBEq, sid_mod, sid_ne1, sid_ne2, sid_inj, h0a, h1a, h4a, r4a, h5a, r9a, h6a, h0b, h1b, h4b, r4b, h5b, r9b, h6b, h7b, h8b, wrap_nat h (by omega), e]; first | done | rfl | (simp; done)) | assumption | rfl)) (by first | omega | (simp only; omega) | (dsimp only; omega) | (show _ < _; simp; omega))⟩
      · have e := hno hb
        exact again_of ((t + 1, v)) (by refine ⟨?_, ?_, ?_, ?_, ?_, ?_, ?_, by dsimp only; omega⟩ <;> (first | (simp (maxSteps := 5000000) -dsimp only [gr, Nat.reduceEqDiff, Nat.reduceLT, Nat.reduceAdd, Nat.reduceMod, Nat.reduceBEq, sid_mod, sid_ne1, sid_ne2, sid_inj, h0a, h1a, h4a, r4a, h5a, r9a, h6a, h0b, h1b, h4b, r4b, h5b, r9b, h6b, h7b, h8b, wrap_nat h (by omega), e]; first | done | rfl | (simp; done)) | assumption | rfl)) (by first | omega | (simp only; omega) | (dsimp only; omega) | (show _ < _; simp; omega))
  · have : t = 2 ^ n := by omega
    subst this
    refine askK_of (c_spec_l3Make n _ (ofN_ok fun i hi => ?_)) ?_
    · have := List.mem_range.1 (List.mem_filter.1 hi).1; omega
    · have e : inF (ofN ((List.range (2 ^ n)).filter (avoidB xs))) = apF n xs := by funext s; exact mem_filt
      rw [e]
      simp (maxSteps := 5000000) -dsimp only [↓gp, gq, reduceCtorEq, Nat.reduceEqDiff, Nat.reduceLT, Nat.reduceLeDiff, Nat.reduceAdd, Nat.reduceMul, Nat.reduceSub, Nat.reduceBEq, Int.reduceToNat, Int.reduceLE, Int.reduceLT, Int.reduceNeg, Nat.reduceMod, sid_ne1, sid_ne2, sid_inj, sid_mod, gT, TK.isInt, TK.agg, Array.toList, h0a, h1a, h4a, r4a, h5a, r9a, h6a]
theorem c_spec_ApartComplex (n : Int) (xs : List Int) : AC Try.prog 95 [.ag [int n, ints xs]] (.tup [.ag [.im (int (apN n xs)), .fr 3 1 (iL (apL n xs))], .im (bool (isGraph n xs))]) := by
  refine AC.go (rs := [.cell 2 57, .tmp 3]) T_ok mixed Try.func95 rfl rfl rfl (by kernel_rfl) fun hl => ?_
  simp (maxSteps := 5000000) -dsimp only [↓gp, gq, reduceCtorEq, Nat.reduceEqDiff, Nat.reduceLT, Nat.reduceLeDiff, Nat.reduceAdd, Nat.reduceMul, Nat.reduceSub, Nat.reduceBEq, Int.reduceToNat, Int.reduceLE, Int.reduceLT, Int.reduceNeg, Nat.reduceMod, sid_ne1, sid_ne2, sid_inj, sid_mod, gT, TK.isInt, TK.agg, Array.toList]
  refine askK_of (c_spec_IsGraph n xs) ?_
  simp (maxSteps := 5000000) -dsimp only [↓gp, gq, reduceCtorEq, Nat.reduceEqDiff, Nat.reduceLT, Nat.reduceLeDiff, Nat.reduceAdd, Nat.reduceMul, Nat.reduceSub, Nat.reduceBEq, Int.reduceToNat, Int.reduceLE, Int.reduceLT, Int.reduceNeg, Nat.reduceMod, sid_ne1, sid_ne2, sid_inj, sid_mod, gT, TK.isInt, TK.agg, Array.toList]
  unfold apN apL
  refine ⟨fun hg => ?_, fun hg => ?_⟩
  · have hg : isGraph n xs = false := by simpa using hg
    rw [hg]; exact ⟨rfl, rfl, rfl⟩
  · have hg : isGraph n xs = true := by simpa using hg
    have hx := graph_ok hg
    obtain ⟨h1, h6, _⟩ := isGraph_iff.1 hg
    obtain ⟨m, rfl⟩ : ∃ m : Nat, n = m := ⟨n.toNat, by omega⟩
    refine askK_of (c_spec_l7From m xs (by omega) hx) ?_
    rw [if_pos hg, if_pos hg, hg]
    simp (maxSteps := 5000000) -dsimp only [↓gp, gq, reduceCtorEq, Nat.reduceEqDiff, Nat.reduceLT, Nat.reduceLeDiff, Nat.reduceAdd, Nat.reduceMul, Nat.reduceSub, Nat.reduceBEq, Int.reduceToNat, Int.reduceLE, Int.reduceLT, Int.reduceNeg, Nat.reduceMod, sid_ne1, sid_ne2, sid_inj, sid_mod, gT, TK.isInt, TK.agg, Array.toList]
end Go.Proofs.Ytnfpeinbdfmlnaa
