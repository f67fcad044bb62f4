/- DERIVED by an AI agent. -/
import Derived.Test.YtnfpeinbdfmlnaaQ3
import Derived.Test.YtnfpeinbdfmlnaaQ2
import Derived.Test.YtnfpeinbdfmlnaaA13
namespace Go.Proofs.Ytnfpeinbdfmlnaa
open Go.Abs
set_option linter.unusedSimpArgs false
set_option linter.unusedVariables false

theorem c_impl_rankOf (M : Mat) (p : Int) (hp : isP p = true) (hM : M.length ≤ 900) (hr : ∀ i, i < M.length → (M.getD i []).length = (M.getD 0 []).length) (hn : (M.getD 0 []).length ≤ 1000) : AC Try.prog 132 [int2 M, int p] (.im (int (rankM p M))) := by
  refine AC.go (rs := [.tmp 4]) T_ok mixed Try.func132 rfl rfl rfl (by kernel_rfl) fun hl => ?_
  have hp2 := isP_pos hp
  simp (maxSteps := 5000000) -dsimp only [↓gp, gq, reduceCtorEq, Nat.reduceEqDiff, Nat.reduceLT, Nat.reduceLeDiff, Nat.reduceAdd, Nat.reduceMul, Nat.reduceSub, Nat.reduceBEq, Int.reduceToNat, Int.reduceLE, Int.reduceLT, Int.reduceNeg, Nat.reduceMod, sid_ne1, sid_ne2, sid_inj, sid_mod, gT, TK.isInt, TK.agg, Array.toList]
  refine ⟨fun h0 => ?_, fun h0 => ?_⟩
  · have hM0 : M = [] := List.eq_nil_of_length_eq_zero (by simpa using h0)
    subst hM0
    rfl
  · have hM0 : ¬ M.length = 0 := by simpa using h0
    refine ⟨by kernel_rfl, askK_of (c_impl_modMatrix M p hp hM (fun i hi => by rw [hr i hi]; exact hn)) ?_⟩
    simp (maxSteps := 5000000) -dsimp only [↓gp, gq, reduceCtorEq, Nat.reduceEqDiff, Nat.reduceLT, Nat.reduceLeDiff, Nat.reduceAdd, Nat.reduceMul, Nat.reduceSub, Nat.reduceBEq, Int.reduceToNat, Int.reduceLE, Int.reduceLT, Int.reduceNeg, Nat.reduceMod, sid_ne1, sid_ne2, sid_inj, sid_mod, gT, TK.isInt, TK.agg, Array.toList]
    refine ⟨by omega, by omega, ?_⟩
    have hok := modM_ok (p := p) (by omega) hr
    have hred := c_impl_reduceMod (modM p M) (M.getD 0 []).length p hp hok (by rw [modM_length]; exact hM) hn
    refine askD_of (v := 1) hred (by repeat (first | exact GiveL.nil | refine GiveL.v ?_ | refine GiveL.own 0 rfl ?_ | refine GiveL.own 1 rfl ?_ | refine GiveL.ag ?_ ?_)) (adoptT_is 10 31 3 ((modM p M).map iL) (fun i hi => by simp (maxSteps := 5000000) -dsimp only [gr, Nat.reduceEqDiff, Nat.reduceLT, Nat.reduceAdd, Nat.reduceMod, Nat.reduceBEq, sid_mod, sid_ne1, sid_ne2, sid_inj])) List.nodup_range (by decide) ?_
    simp (maxSteps := 5000000) -dsimp only [↓gp, gq, reduceCtorEq, Nat.reduceEqDiff, Nat.reduceLT, Nat.reduceLeDiff, Nat.reduceAdd, Nat.reduceMul, Nat.reduceSub, Nat.reduceBEq, Int.reduceToNat, Int.reduceLE, Int.reduceLT, Int.reduceNeg, Nat.reduceMod, sid_ne1, sid_ne2, sid_inj, sid_mod, gT, TK.isInt, TK.agg, Array.toList]
    exact ⟨by kernel_rfl, by rw [ofN_length]; rfl⟩
theorem c_spec_l13Reduce (M : Mat) (p : Int) (hp : isP p = true) (hM : M.length ≤ 900) (hr : ∀ i, i < M.length → (M.getD i []).length = (M.getD 0 []).length) (hn : (M.getD 0 []).length ≤ 1000) :
    AC Try.prog 173 [int2 M, int p] (.tup [.tb 31 3 ((redM p (modM p M) [] 0 (M.getD 0 []).length).1.map iL), .fr 3 1 (iL (ofN (redM p (modM p M) [] 0 (M.getD 0 []).length).2))]) := by
  refine AC.go (rs := [.tmp 4, .tmp 5]) T_ok mixed Try.func173 rfl rfl rfl (by kernel_rfl) fun hl => ?_
  have hp2 := isP_pos hp
  generalize hne : (M.getD 0 []).length = n at *
  simp (maxSteps := 5000000) -dsimp only [↓gp, gq, reduceCtorEq, Nat.reduceEqDiff, Nat.reduceLT, Nat.reduceLeDiff, Nat.reduceAdd, Nat.reduceMul, Nat.reduceSub, Nat.reduceBEq, Int.reduceToNat, Int.reduceLE, Int.reduceLT, Int.reduceNeg, Nat.reduceMod, sid_ne1, sid_ne2, sid_inj, sid_mod, gT, TK.isInt, TK.agg, Array.toList]
  refine loop_gin (k := 15) (v := 1) (e := 31) (e2 := 3) (by simp (maxSteps := 5000000) -dsimp only [gr, Nat.reduceEqDiff, Nat.reduceLT, Nat.reduceAdd, Nat.reduceMod, Nat.reduceBEq, sid_mod, sid_ne1, sid_ne2, sid_inj]) (fun j => by simp (maxSteps := 5000000) -dsimp only [gr, Nat.reduceEqDiff, Nat.reduceLT, Nat.reduceAdd, Nat.reduceMod, Nat.reduceBEq, sid_mod, sid_ne1, sid_ne2, sid_inj]) (fun (i : Nat) s => s.sl 0 = int2 M ∧ s.sl 1 = int p ∧ s.sl 6 = .own 15 (i + 1) ∧ s.sl 7 = int i ∧ (i ≤ M.length ∧ TabG s.rw 15 (i + 1) 31 3 i (modM p (M.take i)))) (fun i => M.length - i) (0) (fun sX htX hslX hoX => (by refine ⟨?_, ?_, ?_, ?_, ⟨by omega, htX⟩⟩ <;> (first | (simp (maxSteps := 5000000) -dsimp only [gr, Nat.reduceEqDiff, Nat.reduceLT, Nat.reduceAdd, Nat.reduceMod, Nat.reduceBEq, sid_mod, sid_ne1, sid_ne2, sid_inj, hslX, hoX]; first | done | rfl | (simp; done)) | assumption | rfl))) ?_
  intro i sa ⟨h0a, h1a, h6a, h7a, hIa⟩
  obtain ⟨hi, ht⟩ := hIa
  simp (maxSteps := 5000000) -dsimp only [↓gp, gq, reduceCtorEq, Nat.reduceEqDiff, Nat.reduceLT, Nat.reduceLeDiff, Nat.reduceAdd, Nat.reduceMul, Nat.reduceSub, Nat.reduceBEq, Int.reduceToNat, Int.reduceLE, Int.reduceLT, Int.reduceNeg, Nat.reduceMod, sid_ne1, sid_ne2, sid_inj, sid_mod, gT, TK.isInt, TK.agg, Array.toList, h0a, h1a, h6a, h7a]
  refine ⟨fun h => ?_, fun h => ?_⟩
  · have hri := hr i h
    have hlen := modM_take_len p hi
    refine loop_wk (fun (zb : Nat × Nat) s => match zb with | (j, u) => s.sl 0 = int2 M ∧ s.sl 1 = int p ∧ s.sl 6 = .own 15 (i + 1) ∧ s.sl 7 = int i ∧ s.sl 8 = .own 22 u ∧ s.rw 22 = ⟨u, .tab 3 (iL (((M.getD i []).map fun x => x % p).take j))⟩ ∧ s.sl 9 = int j ∧ (j ≤ n ∧ TabG s.rw 15 (i + 1) 31 3 i (modM p (M.take i)))) (fun (j, u) => n - j) ((0, (sa.rw 22).ver + 1)) (Wk.tab (k := 22) (v := (sa.rw 22).ver + 1) (e := 3) (c := []) (by simp (maxSteps := 5000000) -dsimp only [gr, Nat.reduceEqDiff, Nat.reduceLT, Nat.reduceAdd, Nat.reduceMod, Nat.reduceBEq, sid_mod, sid_ne1, sid_ne2, sid_inj]) (fun p hp => by cases hp)) (by refine ⟨?_, ?_, ?_, ?_, ?_, ?_, ?_, ⟨by omega, ht.same (by simp (maxSteps := 5000000) -dsimp only [gr, Nat.reduceEqDiff, Nat.reduceLT, Nat.reduceAdd, Nat.reduceMod, Nat.reduceBEq, sid_mod, sid_ne1, sid_ne2, sid_inj]) (fun x => by simp (maxSteps := 5000000) -dsimp only [gr, Nat.reduceEqDiff, Nat.reduceLT, Nat.reduceAdd, Nat.reduceMod, Nat.reduceBEq, sid_mod, sid_ne1, sid_ne2, sid_inj])⟩⟩ <;> (first | (simp (maxSteps := 5000000) -dsimp only [gr, Nat.reduceEqDiff, Nat.reduceLT, Nat.reduceAdd, Nat.reduceMod, Nat.reduceBEq, sid_mod, sid_ne1, sid_ne2, sid_inj, h0a, h1a, h6a, h7a]; first | done | rfl | (simp; done)) | assumption | rfl)) ?_
    intro (j, u) sb ⟨h0b, h1b, h6b, h7b, h8b, r22b, h9b, hIb⟩
    obtain ⟨hj, ht2⟩ := hIb
    simp (maxSteps := 5000000) -dsimp only [↓gp, gq, reduceCtorEq, Nat.reduceEqDiff, Nat.reduceLT, Nat.reduceLeDiff, Nat.reduceAdd, Nat.reduceMul, Nat.reduceSub, Nat.reduceBEq, Int.reduceToNat, Int.reduceLE, Int.reduceLT, Int.reduceNeg, Nat.reduceMod, sid_ne1, sid_ne2, sid_inj, sid_mod, gT, TK.isInt, TK.agg, Array.toList, h0b, h1b, h6b, h7b, h8b, r22b, h9b]
    refine ⟨h, h, fun h2 => ⟨h, h, by omega, by omega, askK_of (c_spec_l13Mod _ p hp) ?_⟩, fun h2 => ?_⟩
    · simp (maxSteps := 5000000) -dsimp only [↓gp, gq, reduceCtorEq, Nat.reduceEqDiff, Nat.reduceLT, Nat.reduceLeDiff, Nat.reduceAdd, Nat.reduceMul, Nat.reduceSub, Nat.reduceBEq, Int.reduceToNat, Int.reduceLE, Int.reduceLT, Int.reduceNeg, Nat.reduceMod, sid_ne1, sid_ne2, sid_inj, sid_mod, gT, TK.isInt, TK.agg, Array.toList, h0b, h1b, h6b, h7b, h8b, r22b, h9b]
      have h2' : j < n := by omega
      have hts : ((M.getD i []).map fun x => x % p).take (j + 1) = ((M.getD i []).map fun x => x % p).take j ++ [(M.getD i []).getD j 0 % p] := by
        rw [take_snoc 0 (by simpa using h2), mod_getD p h2]
      have htl : (((M.getD i []).map fun x => x % p).take j).length ≤ 1000 := by simp; omega
      refine ⟨by omega, again_of ((j + 1, u + 1)) (by refine ⟨?_, ?_, ?_, ?_, ?_, ?_, ?_, ⟨by dsimp only; omega, ht2.same (by simp (maxSteps := 5000000) -dsimp only [gr, Nat.reduceEqDiff, Nat.reduceLT, Nat.reduceAdd, Nat.reduceMod, Nat.reduceBEq, sid_mod, sid_ne1, sid_ne2, sid_inj]) (fun x => by simp (maxSteps := 5000000) -dsimp only [gr, Nat.reduceEqDiff, Nat.reduceLT, Nat.reduceAdd, Nat.reduceMod, Nat.reduceBEq, sid_mod, sid_ne1, sid_ne2, sid_inj])⟩⟩ <;> (first | (simp (maxSteps := 5000000) -dsimp only [gr, Nat.reduceEqDiff, Nat.reduceLT, Nat.reduceAdd, Nat.reduceMod, Nat.reduceBEq, sid_mod, sid_ne1, sid_ne2, sid_inj, h0b, h1b, h6b, h7b, h8b, r22b, h9b, wrap_nat h2' (by omega), hts]; first | done | rfl | (simp; done)) | assumption | rfl)) (by first | omega | (simp only; omega) | (dsimp only; omega) | (show _ < _; simp; omega))⟩
    · have hjn : ((M.getD i []).map fun x => x % p).take j = (M.getD i []).map fun x => x % p := List.take_of_length_le (by rw [List.length_map, hri]; omega)
      rw [hjn] at r22b
      simp (maxSteps := 5000000) -dsimp only [↓gp, gq, reduceCtorEq, Nat.reduceEqDiff, Nat.reduceLT, Nat.reduceLeDiff, Nat.reduceAdd, Nat.reduceMul, Nat.reduceSub, Nat.reduceBEq, Int.reduceToNat, Int.reduceLE, Int.reduceLT, Int.reduceNeg, Nat.reduceMod, sid_ne1, sid_ne2, sid_inj, sid_mod, gT, TK.isInt, TK.agg, Array.toList, h0b, h1b, h6b, h7b, h8b, r22b, h9b, ht2.top]
      refine ⟨by omega, again_grow (k := 15) (v := i + 1 + 1) (e := 31) (e2 := 3) (n := i) (d := 22) (vd := u) (M := modM p (M.take i)) (r := (M.getD i []).map fun x => x % p) (by simp (maxSteps := 5000000) -dsimp only [gr, Nat.reduceEqDiff, Nat.reduceLT, Nat.reduceAdd, Nat.reduceMod, Nat.reduceBEq, sid_mod, sid_ne1, sid_ne2, sid_inj, ht2.top]) hlen (fun j hj => by simp (maxSteps := 5000000) -dsimp only [gr, Nat.reduceEqDiff, Nat.reduceLT, Nat.reduceAdd, Nat.reduceMod, Nat.reduceBEq, sid_mod, sid_ne1, sid_ne2, sid_inj, ht2.row j hj]) (fun j hj => by simp (maxSteps := 5000000) -dsimp only [gr, Nat.reduceEqDiff, Nat.reduceLT, Nat.reduceAdd, Nat.reduceMod, Nat.reduceBEq, sid_mod, sid_ne1, sid_ne2, sid_inj, ht2.rest j hj]) (by simp (maxSteps := 5000000) -dsimp only [gr, Nat.reduceEqDiff, Nat.reduceLT, Nat.reduceAdd, Nat.reduceMod, Nat.reduceBEq, sid_mod, sid_ne1, sid_ne2, sid_inj, h0b, h1b, h6b, h7b, h8b, r22b, h9b]) (by decide) (by decide) (i + 1) (fun sX htX hslX hoX => (by refine ⟨?_, ?_, ?_, ?_, ⟨by omega, (modM_take p h ▸ htX : TabG _ _ _ _ _ _ _)⟩⟩ <;> (first | (simp (maxSteps := 5000000) -dsimp only [gr, Nat.reduceEqDiff, Nat.reduceLT, Nat.reduceAdd, Nat.reduceMod, Nat.reduceBEq, sid_mod, sid_ne1, sid_ne2, sid_inj, hslX, hoX, h0a, h1a, h6a, h7a, h0b, h1b, h6b, h7b, h8b, r22b, h9b, wrap_nat h (by omega)]; first | done | rfl | (simp; done)) | assumption | rfl))) (by first | omega | (simp only; omega) | (dsimp only; omega) | (show _ < _; simp; omega))⟩
  · have : i = M.length := by omega
    subst this
    rw [List.take_length] at ht
    have htI := ht.done
    have hmok := modM_ok (p := p) (by omega) hr
    have hml := modM_length p M
    generalize modM p M = R at *
    refine loop_of (fun (zc : Mat × List Nat × Nat × List Nat × Nat) s => match zc with | (cur, piv, col, q, v) => s.sl 1 = int p ∧ s.sl 6 = .own 15 (M.length + 1) ∧ s.sl 10 = .own 48 v ∧ s.rw 48 = ⟨v, .sli 3 1 false (iL (ofN piv))⟩ ∧ s.sl 11 = int col ∧ (col ≤ n ∧ MatOk p n cur ∧ cur.length = M.length ∧ piv.length ≤ M.length ∧ TabI s.rw 15 (M.length + 1) 31 3 q cur ∧ q.Perm (List.range M.length) ∧ redM p R [] 0 n = redM p cur piv col (n - col))) (fun (cur, piv, col, q, v) => n - col) ((R, [], 0, List.range M.length, (sa.rw 48).ver + 1)) (by refine ⟨?_, ?_, ?_, ?_, ?_, ⟨by omega, hmok, hml, by simp, htI.same (by simp (maxSteps := 5000000) -dsimp only [gr, Nat.reduceEqDiff, Nat.reduceLT, Nat.reduceAdd, Nat.reduceMod, Nat.reduceBEq, sid_mod, sid_ne1, sid_ne2, sid_inj]) (fun x => by simp (maxSteps := 5000000) -dsimp only [gr, Nat.reduceEqDiff, Nat.reduceLT, Nat.reduceAdd, Nat.reduceMod, Nat.reduceBEq, sid_mod, sid_ne1, sid_ne2, sid_inj]), List.Perm.refl _, rfl⟩⟩ <;> (first | (simp (maxSteps := 5000000) -dsimp only [gr, Nat.reduceEqDiff, Nat.reduceLT, Nat.reduceAdd, Nat.reduceMod, Nat.reduceBEq, sid_mod, sid_ne1, sid_ne2, sid_inj, h0a, h1a, h6a, h7a]; first | done | rfl | (simp; done)) | assumption | rfl)) ?_
    intro (cur, piv, col, q, v) sc ⟨h1c, h6c, h10c, r48c, h11c, hIc⟩
    obtain ⟨hcol, hcur, hlc, hpl, htc, hperm, hred⟩ := hIc
    have hlq : q.length = cur.length := htc.len
    simp (maxSteps := 5000000) -dsimp only [↓gp, gq, reduceCtorEq, Nat.reduceEqDiff, Nat.reduceLT, Nat.reduceLeDiff, Nat.reduceAdd, Nat.reduceMul, Nat.reduceSub, Nat.reduceBEq, Int.reduceToNat, Int.reduceLE, Int.reduceLT, Int.reduceNeg, Nat.reduceMod, sid_ne1, sid_ne2, sid_inj, sid_mod, gT, TK.isInt, TK.agg, Array.toList, h1c, h6c, h10c, r48c, h11c, htc.top, hlq, ofN_length]
    refine ⟨fun h0 => ?_, fun h0 => ?_⟩
    · have h0 : 0 < cur.length := by omega
      have hr0 := htc.row h0
      have hl0 := hcur.len 0 h0
      simp (maxSteps := 5000000) -dsimp only [↓gp, gq, reduceCtorEq, Nat.reduceEqDiff, Nat.reduceLT, Nat.reduceLeDiff, Nat.reduceAdd, Nat.reduceMul, Nat.reduceSub, Nat.reduceBEq, Int.reduceToNat, Int.reduceLE, Int.reduceLT, Int.reduceNeg, Nat.reduceMod, sid_ne1, sid_ne2, sid_inj, sid_mod, gT, TK.isInt, TK.agg, Array.toList, h1c, h6c, h10c, r48c, h11c, htc.top, hlq, ofN_length, hr0, hl0]
      refine ⟨by omega, h0, fun h1 => ⟨fun h2 => ?_, fun h2 => ?_⟩, fun h1 => ?_⟩
      · rw [red_step h1 h2] at hred
        refine loop_of (fun (a : Nat) s => s.sl 1 = int p ∧ s.sl 6 = .own 15 (M.length + 1) ∧ s.sl 10 = .own 48 v ∧ s.rw 48 = ⟨v, .sli 3 1 false (iL (ofN piv))⟩ ∧ s.sl 11 = int col ∧ s.sl 12 = int piv.length ∧ s.sl 13 = int a ∧ (piv.length ≤ a ∧ a ≤ cur.length ∧ findRow cur col piv.length (cur.length - piv.length) = findRow cur col a (cur.length - a) ∧ TabI s.rw 15 (M.length + 1) 31 3 q cur)) (fun a => cur.length - a) (piv.length) (by refine ⟨?_, ?_, ?_, ?_, ?_, ?_, ?_, ⟨by omega, by omega, rfl, htc.same (by simp (maxSteps := 5000000) -dsimp only [gr, Nat.reduceEqDiff, Nat.reduceLT, Nat.reduceAdd, Nat.reduceMod, Nat.reduceBEq, sid_mod, sid_ne1, sid_ne2, sid_inj]) (fun x => by simp (maxSteps := 5000000) -dsimp only [gr, Nat.reduceEqDiff, Nat.reduceLT, Nat.reduceAdd, Nat.reduceMod, Nat.reduceBEq, sid_mod, sid_ne1, sid_ne2, sid_inj])⟩⟩ <;> (first | (simp (maxSteps := 5000000) -dsimp only [gr, Nat.reduceEqDiff, Nat.reduceLT, Nat.reduceAdd, Nat.reduceMod, Nat.reduceBEq, sid_mod, sid_ne1, sid_ne2, sid_inj, h1c, h6c, h10c, r48c, h11c]; first | done | rfl | (simp; done)) | assumption | rfl)) ?_
        intro a sd ⟨h1d, h6d, h10d, r48d, h11d, h12d, h13d, hId⟩
        obtain ⟨ha1, ha2, hfind, htb⟩ := hId
        have stop : (¬ a < cur.length ∨ ¬ (cur.getD a []).getD col 0 = 0) → findRow cur col piv.length (cur.length - piv.length) = a := fun h => by
          rw [hfind]
          by_cases hlt : a < cur.length
          · rw [find_step hlt, if_neg (h.resolve_left (by omega))]
          · rw [show cur.length - a = 0 by omega]; rfl
        simp (maxSteps := 5000000) -dsimp only [↓gp, gq, reduceCtorEq, Nat.reduceEqDiff, Nat.reduceLT, Nat.reduceLeDiff, Nat.reduceAdd, Nat.reduceMul, Nat.reduceSub, Nat.reduceBEq, Int.reduceToNat, Int.reduceLE, Int.reduceLT, Int.reduceNeg, Nat.reduceMod, sid_ne1, sid_ne2, sid_inj, sid_mod, gT, TK.isInt, TK.agg, Array.toList, h1d, h6d, h10d, r48d, h11d, h12d, h13d, htb.top, hlq]
        refine ⟨fun h3 => ?_, fun h3 => ?_⟩
        · have hra := htb.row h3
          have hlen := hcur.len a h3
          simp (maxSteps := 5000000) -dsimp only [↓gp, gq, reduceCtorEq, Nat.reduceEqDiff, Nat.reduceLT, Nat.reduceLeDiff, Nat.reduceAdd, Nat.reduceMul, Nat.reduceSub, Nat.reduceBEq, Int.reduceToNat, Int.reduceLE, Int.reduceLT, Int.reduceNeg, Nat.reduceMod, sid_ne1, sid_ne2, sid_inj, sid_mod, gT, TK.isInt, TK.agg, Array.toList, h1d, h6d, h10d, r48d, h11d, h12d, h13d, htb.top, hlq, hra]
          refine ⟨h3, h3, by omega, by omega, fun hz => ?_, fun hz => ?_⟩
          · have hz := beq_iff_eq.1 hz
            rw [find_step h3, if_pos hz] at hfind
            exact again_of (a + 1) (by refine ⟨?_, ?_, ?_, ?_, ?_, ?_, ?_, ⟨by omega, by omega, hfind, htb.same (by simp (maxSteps := 5000000) -dsimp only [gr, Nat.reduceEqDiff, Nat.reduceLT, Nat.reduceAdd, Nat.reduceMod, Nat.reduceBEq, sid_mod, sid_ne1, sid_ne2, sid_inj]) (fun x => by simp (maxSteps := 5000000) -dsimp only [gr, Nat.reduceEqDiff, Nat.reduceLT, Nat.reduceAdd, Nat.reduceMod, Nat.reduceBEq, sid_mod, sid_ne1, sid_ne2, sid_inj])⟩⟩ <;> (first | (simp (maxSteps := 5000000) -dsimp only [gr, Nat.reduceEqDiff, Nat.reduceLT, Nat.reduceAdd, Nat.reduceMod, Nat.reduceBEq, sid_mod, sid_ne1, sid_ne2, sid_inj, h1d, h6d, h10d, r48d, h11d, h12d, h13d, wrap_nat h3 (by omega)]; first | done | rfl | (simp; done)) | assumption | rfl)) (by first | omega | (simp only; omega) | (dsimp only; omega) | (show _ < _; simp; omega))
          · have hz : ¬ (cur.getD a []).getD col 0 = 0 := by simpa using hz
            have hfa := stop (.inr hz)
            have hne' : ((a : Int) == (cur.length : Int)) = false := by simp; omega
            have hst : redStep p cur col piv = (clearM p piv.length col (swp cur piv.length a), piv ++ [col]) := by unfold redStep; rw [hfa, if_neg (by omega)]
            rw [hst] at hred
            have hrd := htb.row h2
            simp (maxSteps := 5000000) -dsimp only [↓gp, gq, reduceCtorEq, Nat.reduceEqDiff, Nat.reduceLT, Nat.reduceLeDiff, Nat.reduceAdd, Nat.reduceMul, Nat.reduceSub, Nat.reduceBEq, Int.reduceToNat, Int.reduceLE, Int.reduceLT, Int.reduceNeg, Nat.reduceMod, sid_ne1, sid_ne2, sid_inj, sid_mod, gT, TK.isInt, TK.agg, Array.toList, h1d, h6d, h10d, r48d, h11d, h12d, h13d, htb.top, hlq, hra, hne', hrd]
            have hsw := swp_ok hcur h2 h3
            have hswl : (swp cur piv.length a).length = cur.length := swp_length _ _ _
            have hqp : ((q.set a (q.getD piv.length 0)).set piv.length (q.getD a 0)).Perm q := by
              have e1 : q.getD piv.length 0 = q[piv.length]'(by omega) := by simp [List.getD, (by omega : piv.length < q.length)]
              have e2 : q.getD a 0 = q[a]'(by omega) := by simp [List.getD, (by omega : a < q.length)]
              rw [e1, e2]; exact List.set_set_perm (by omega) (by omega)
            have hclr := c_spec_l13Clear (swp cur piv.length a) n piv.length col p hp hsw (by omega) h1 hn
            refine ⟨h3, h3, h2, h2, h3, by omega, h2, by omega, askT_of hclr (by repeat (first | exact GiveL.nil | refine GiveL.v ?_ | refine GiveL.own 0 rfl ?_ | refine GiveL.own 1 rfl ?_ | refine GiveL.ag ?_ ?_)) ((htb.swap h3 h2 (by simp (maxSteps := 5000000) -dsimp only [gr, Nat.reduceEqDiff, Nat.reduceLT, Nat.reduceAdd, Nat.reduceMod, Nat.reduceBEq, sid_mod, sid_ne1, sid_ne2, sid_inj, h1d, h6d, h10d, r48d, h11d, h12d, h13d]) (fun x => by simp (maxSteps := 5000000) -dsimp only [gr, Nat.reduceEqDiff, Nat.reduceLT, Nat.reduceAdd, Nat.reduceMod, Nat.reduceBEq, sid_mod, sid_ne1, sid_ne2, sid_inj, h1d, h6d, h10d, r48d, h11d, h12d, h13d])).1.to (swp_comm cur a piv.length)).is (hqp.nodup_iff.2 htb.nd) (fun p' hp' => ?_)⟩
            simp (maxSteps := 5000000) -dsimp only [↓gp, gq, reduceCtorEq, Nat.reduceEqDiff, Nat.reduceLT, Nat.reduceLeDiff, Nat.reduceAdd, Nat.reduceMul, Nat.reduceSub, Nat.reduceBEq, Int.reduceToNat, Int.reduceLE, Int.reduceLT, Int.reduceNeg, Nat.reduceMod, sid_ne1, sid_ne2, sid_inj, sid_mod, gT, TK.isInt, TK.agg, Array.toList, h1d, h6d, h10d, r48d, h11d, h12d, h13d, ofN_length]
            refine ⟨by omega, ?_⟩
            have hnd' : p'.Nodup := hp'.nodup_iff.2 (hqp.nodup_iff.2 htb.nd)
            have hcl := clearM_ok (p := p) (at' := piv.length) (col := col) (by omega) hsw (by omega)
            have hcll := clearM_length p piv.length col (swp cur piv.length a)
            have hp'l : p'.length = cur.length := by rw [hp'.length_eq, hqp.length_eq, hlq]
            exact again_of ((clearM p piv.length col (swp cur piv.length a), piv ++ [col], col + 1, p', v + 1)) (by refine ⟨?_, ?_, ?_, ?_, ?_, ⟨by dsimp only; omega, hcl, by dsimp only; rw [hcll, hswl, hlc], by simp; omega, ⟨⟨by simp (maxSteps := 5000000) -dsimp only [gr, Nat.reduceEqDiff, Nat.reduceLT, Nat.reduceAdd, Nat.reduceMod, Nat.reduceBEq, sid_mod, sid_ne1, sid_ne2, sid_inj], by simp [hp'l, hcll, hswl], fun i hi => by simp (maxSteps := 5000000) -dsimp only [gr, Nat.reduceEqDiff, Nat.reduceLT, Nat.reduceAdd, Nat.reduceMod, Nat.reduceBEq, sid_mod, sid_ne1, sid_ne2, sid_inj, tabbed_row hnd' hi, mapI_getD]⟩, hnd'⟩, hp'.trans (hqp.trans hperm), hred⟩⟩ <;> (first | (simp (maxSteps := 5000000) -dsimp only [gr, Nat.reduceEqDiff, Nat.reduceLT, Nat.reduceAdd, Nat.reduceMod, Nat.reduceBEq, sid_mod, sid_ne1, sid_ne2, sid_inj, h1c, h6c, h10c, r48c, h11c, h1d, h6d, h10d, r48d, h11d, h12d, h13d, wrap_nat h1 (by omega), ofN_append, ofN_one]; first | done | rfl | (simp; done)) | assumption | rfl)) (by first | omega | (simp only; omega) | (dsimp only; omega) | (show _ < _; simp; omega))
        · have hfa := stop (.inl (by omega))
          have : a = cur.length := by omega
          subst this
          have hst : redStep p cur col piv = (cur, piv) := by unfold redStep; rw [if_pos hfa]
          rw [hst] at hred
          simp (maxSteps := 5000000) -dsimp only [↓gp, gq, reduceCtorEq, Nat.reduceEqDiff, Nat.reduceLT, Nat.reduceLeDiff, Nat.reduceAdd, Nat.reduceMul, Nat.reduceSub, Nat.reduceBEq, Int.reduceToNat, Int.reduceLE, Int.reduceLT, Int.reduceNeg, Nat.reduceMod, sid_ne1, sid_ne2, sid_inj, sid_mod, gT, TK.isInt, TK.agg, Array.toList, h1d, h6d, h10d, r48d, h11d, h12d, h13d, htb.top, hlq]
          exact again_of ((cur, piv, col + 1, q, v)) (by refine ⟨?_, ?_, ?_, ?_, ?_, ⟨by dsimp only; omega, hcur, hlc, by dsimp only; omega, htb.same (by simp (maxSteps := 5000000) -dsimp only [gr, Nat.reduceEqDiff, Nat.reduceLT, Nat.reduceAdd, Nat.reduceMod, Nat.reduceBEq, sid_mod, sid_ne1, sid_ne2, sid_inj]) (fun x => by simp (maxSteps := 5000000) -dsimp only [gr, Nat.reduceEqDiff, Nat.reduceLT, Nat.reduceAdd, Nat.reduceMod, Nat.reduceBEq, sid_mod, sid_ne1, sid_ne2, sid_inj]), hperm, hred⟩⟩ <;> (first | (simp (maxSteps := 5000000) -dsimp only [gr, Nat.reduceEqDiff, Nat.reduceLT, Nat.reduceAdd, Nat.reduceMod, Nat.reduceBEq, sid_mod, sid_ne1, sid_ne2, sid_inj, h1c, h6c, h10c, r48c, h11c, h1d, h6d, h10d, r48d, h11d, h12d, h13d, wrap_nat h1 (by omega)]; first | done | rfl | (simp; done)) | assumption | rfl)) (by first | omega | (simp only; omega) | (dsimp only; omega) | (show _ < _; simp; omega))
      · have hf : redM p cur piv col (n - col) = (cur, piv) := redM_full p cur piv col (n - col) h2
        rw [hf] at hred
        rw [hred]
        simp (maxSteps := 5000000) -dsimp only [↓gp, gq, reduceCtorEq, Nat.reduceEqDiff, Nat.reduceLT, Nat.reduceLeDiff, Nat.reduceAdd, Nat.reduceMul, Nat.reduceSub, Nat.reduceBEq, Int.reduceToNat, Int.reduceLE, Int.reduceLT, Int.reduceNeg, Nat.reduceMod, sid_ne1, sid_ne2, sid_inj, sid_mod, gT, TK.isInt, TK.agg, Array.toList, h1c, h6c, h10c, r48c, h11c]
        have hq9 : ∀ j ∈ q, j < 998 := fun j hj => by have := List.mem_range.1 (hperm.mem_iff.1 hj); omega
        refine out1_tabI htc (by decide) hq9 ?_
        simp (maxSteps := 5000000) -dsimp only [↓gp, gq, reduceCtorEq, Nat.reduceEqDiff, Nat.reduceLT, Nat.reduceLeDiff, Nat.reduceAdd, Nat.reduceMul, Nat.reduceSub, Nat.reduceBEq, Int.reduceToNat, Int.reduceLE, Int.reduceLT, Int.reduceNeg, Nat.reduceMod, sid_ne1, sid_ne2, sid_inj, sid_mod, gT, TK.isInt, TK.agg, Array.toList, h1c, h6c, h10c, r48c, h11c]
        exact sid_nodup htc.nd (fun j hj => by rw [sid_eq]; omega) (by decide)
      · have hf : redM p cur piv col (n - col) = (cur, piv) := by rw [show n - col = 0 by omega]; rfl
        rw [hf] at hred
        rw [hred]
        simp (maxSteps := 5000000) -dsimp only [↓gp, gq, reduceCtorEq, Nat.reduceEqDiff, Nat.reduceLT, Nat.reduceLeDiff, Nat.reduceAdd, Nat.reduceMul, Nat.reduceSub, Nat.reduceBEq, Int.reduceToNat, Int.reduceLE, Int.reduceLT, Int.reduceNeg, Nat.reduceMod, sid_ne1, sid_ne2, sid_inj, sid_mod, gT, TK.isInt, TK.agg, Array.toList, h1c, h6c, h10c, r48c, h11c]
        have hq9 : ∀ j ∈ q, j < 998 := fun j hj => by have := List.mem_range.1 (hperm.mem_iff.1 hj); omega
        refine out1_tabI htc (by decide) hq9 ?_
        simp (maxSteps := 5000000) -dsimp only [↓gp, gq, reduceCtorEq, Nat.reduceEqDiff, Nat.reduceLT, Nat.reduceLeDiff, Nat.reduceAdd, Nat.reduceMul, Nat.reduceSub, Nat.reduceBEq, Int.reduceToNat, Int.reduceLE, Int.reduceLT, Int.reduceNeg, Nat.reduceMod, sid_ne1, sid_ne2, sid_inj, sid_mod, gT, TK.isInt, TK.agg, Array.toList, h1c, h6c, h10c, r48c, h11c]
        exact sid_nodup htc.nd (fun j hj => by rw [sid_eq]; omega) (by decide)
    · have hf : redM p cur piv col (n - col) = (cur, piv) := redM_full p cur piv col (n - col) (by omega)
      rw [hf] at hred
      rw [hred]
      simp (maxSteps := 5000000) -dsimp only [↓gp, gq, reduceCtorEq, Nat.reduceEqDiff, Nat.reduceLT, Nat.reduceLeDiff, Nat.reduceAdd, Nat.reduceMul, Nat.reduceSub, Nat.reduceBEq, Int.reduceToNat, Int.reduceLE, Int.reduceLT, Int.reduceNeg, Nat.reduceMod, sid_ne1, sid_ne2, sid_inj, sid_mod, gT, TK.isInt, TK.agg, Array.toList, h1c, h6c, h10c, r48c, h11c]
      have hq9 : ∀ j ∈ q, j < 998 := fun j hj => by have := List.mem_range.1 (hperm.mem_iff.1 hj); omega
      refine out1_tabI htc (by decide) hq9 ?_
      simp (maxSteps := 5000000) -dsimp only [↓gp, gq, reduceCtorEq, Nat.reduceEqDiff, Nat.reduceLT, Nat.reduceLeDiff, Nat.reduceAdd, Nat.reduceMul, Nat.reduceSub, Nat.reduceBEq, Int.reduceToNat, Int.reduceLE, Int.reduceLT, Int.reduceNeg, Nat.reduceMod, sid_ne1, sid_ne2, sid_inj, sid_mod, gT, TK.isInt, TK.agg, Array.toList, h1c, h6c, h10c, r48c, h11c]
      exact sid_nodup htc.nd (fun j hj => by rw [sid_eq]; omega) (by decide)
theorem adopt_rdc (s : St) (d e e2 e' sz : Nat) (rows : List (List PV)) (c : List PV) : (adoptSt s d (.tup [.tb e e2 rows, .fr e' sz c])).sl d = .tup [.own d ((s.rw d).ver + 1), .own (sid d rows.length) ((s.rw (sid d rows.length)).ver + 1)] ∧
    (adoptSt s d (.tup [.tb e e2 rows, .fr e' sz c])).rw (sid d rows.length) = ⟨(s.rw (sid d rows.length)).ver + 1, .sli e' sz false c⟩ := by
  have hl : (leaves (.tb e e2 rows)).length = rows.length + 1 := by rw [leaves]; simp
  have hd : leafId d 0 = d := by unfold leafId; omega
  have hs : leafId d (0 + (rows.length + 1)) = sid d rows.length := by rw [Nat.zero_add]; rfl
  constructor
  · unfold adoptSt
    rw [put_sl_same]
    simp only [adopt2, adopt1, adoptL, adopt0, hl, hd, hs]
  · have hrw : (adoptSt s d (.tup [.tb e e2 rows, .fr e' sz c])).rw = updL s.rw d (rowsOf s.rw d (leaves (.tup [.tb e e2 rows, .fr e' sz c])) 0) 0 := by
      unfold adoptSt; rw [put_rw]; exact addRows_eq _ _ _ _
    have hlv : leaves (.tup [.tb e e2 rows, .fr e' sz c]) = leaves (.tb e e2 rows) ++ [(e', some sz, c)] := by rw [leaves_tup]; simp [leaves]
    have h2 : rows.length + 1 < (leaves (.tup [.tb e e2 rows, .fr e' sz c])).length := by rw [hlv]; simp [hl]
    have h1 : rows.length + 1 < (rowsOf s.rw d (leaves (.tup [.tb e e2 rows, .fr e' sz c])) 0).length := by rw [rowsOf_length]; exact h2
    have := updL_at s.rw d (rowsOf s.rw d (leaves (.tup [.tb e e2 rows, .fr e' sz c])) 0) 0 (rows.length + 1) h1
    rw [hs] at this
    rw [hrw, this, rowsOf_get _ _ _ _ _ h2, hs]
    have h3 : (leaves (.tup [.tb e e2 rows, .fr e' sz c]))[rows.length + 1] = (e', some sz, c) := by
      simp only [hlv]
      rw [List.getElem_append_right (by omega)]
      simp [hl]
    rw [h3]
    rfl
theorem c_spec_l13Rank (M : Mat) (p : Int) (hp : isP p = true) (hM : M.length ≤ 900) (hr : ∀ i, i < M.length → (M.getD i []).length = (M.getD 0 []).length) (hn : (M.getD 0 []).length ≤ 1000) : AC Try.prog 124 [int2 M, int p] (.im (int (rankM p M))) := by
  refine AC.go (rs := [.tmp 4]) T_ok mixed Try.func124 rfl rfl rfl (by kernel_rfl) fun hl => ?_
  simp (maxSteps := 5000000) -dsimp only [↓gp, gq, reduceCtorEq, Nat.reduceEqDiff, Nat.reduceLT, Nat.reduceLeDiff, Nat.reduceAdd, Nat.reduceMul, Nat.reduceSub, Nat.reduceBEq, Int.reduceToNat, Int.reduceLE, Int.reduceLT, Int.reduceNeg, Nat.reduceMod, sid_ne1, sid_ne2, sid_inj, sid_mod, gT, TK.isInt, TK.agg, Array.toList]
  refine askK_of (c_spec_l13Reduce M p hp hM hr hn) ?_
  simp (maxSteps := 5000000) -dsimp only [↓gp, gq, reduceCtorEq, Nat.reduceEqDiff, Nat.reduceLT, Nat.reduceLeDiff, Nat.reduceAdd, Nat.reduceMul, Nat.reduceSub, Nat.reduceBEq, Int.reduceToNat, Int.reduceLE, Int.reduceLT, Int.reduceNeg, Nat.reduceMod, sid_ne1, sid_ne2, sid_inj, sid_mod, gT, TK.isInt, TK.agg, Array.toList, adopt_rdc, ofN_length]
  rfl
end Go.Proofs.Ytnfpeinbdfmlnaa

namespace Go.Proofs.Ytnfpeinbdfmlnaa
open Go.Abs
set_option linter.unusedSimpArgs false
set_option linter.unusedVariables false

theorem c_spec_FaceCounts (n : Int) (xs : List Int) : AC Try.prog 123 [.ag [int n, ints xs]] (.fr 3 1 (iL (fvec (facF n xs)))) := by
  refine AC.go (rs := [.tmp 2]) T_ok mixed Try.func123 rfl rfl rfl (by kernel_rfl) fun hl => ?_
  simp (maxSteps := 5000000) -dsimp only [↓gp, gq, reduceCtorEq, Nat.reduceEqDiff, Nat.reduceLT, Nat.reduceLeDiff, Nat.reduceAdd, Nat.reduceMul, Nat.reduceSub, Nat.reduceBEq, Int.reduceToNat, Int.reduceLE, Int.reduceLT, Int.reduceNeg, Nat.reduceMod, sid_ne1, sid_ne2, sid_inj, sid_mod, gT, TK.isInt, TK.agg, Array.toList]
  refine askK_of (c_spec_FacesOf n xs) ?_
  simp (maxSteps := 5000000) -dsimp only [↓gp, gq, reduceCtorEq, Nat.reduceEqDiff, Nat.reduceLT, Nat.reduceLeDiff, Nat.reduceAdd, Nat.reduceMul, Nat.reduceSub, Nat.reduceBEq, Int.reduceToNat, Int.reduceLE, Int.reduceLT, Int.reduceNeg, Nat.reduceMod, sid_ne1, sid_ne2, sid_inj, sid_mod, gT, TK.isInt, TK.agg, Array.toList]
  have hfull := ordN_len (facF n xs)
  have hmem : ∀ i, i < (ordN (facF n xs)).length → (ordN (facF n xs)).getD i 0 < 64 := fun i h => ordN_mem64 h
  have hmx := mxL_ordN (facF n xs)
  have hd7 := dimN_le (facF n xs)
  unfold fvec
  generalize ordN (facF n xs) = all at *
  refine loop_of (fun (za : Nat × Nat × Nat) s => match za with | (i, v, u) => s.sl 3 = .own 6 v ∧ s.rw 6 = ⟨v, .sli 3 1 false (iL (cnts (all.take i) (mxL (all.take i))))⟩ ∧ s.sl 4 = .own 8 u ∧ s.rw 8 = ⟨u, .sli 3 1 false (iL (ofN all))⟩ ∧ s.sl 5 = int i ∧ (i ≤ all.length)) (fun (i, v, u) => all.length - i) ((0, 1, 1)) (by refine ⟨?_, ?_, ?_, ?_, ?_, by simp⟩ <;> (first | (simp (maxSteps := 5000000) -dsimp only [gr, Nat.reduceEqDiff, Nat.reduceLT, Nat.reduceAdd, Nat.reduceMod, Nat.reduceBEq, sid_mod, sid_ne1, sid_ne2, sid_inj, mxL, cnts]; first | done | rfl | (simp; done)) | assumption | rfl)) ?_
  intro (i, v, u) sa ⟨h3a, r6a, h4a, r8a, h5a, hIa⟩
  simp (maxSteps := 5000000) -dsimp only [↓gp, gq, reduceCtorEq, Nat.reduceEqDiff, Nat.reduceLT, Nat.reduceLeDiff, Nat.reduceAdd, Nat.reduceMul, Nat.reduceSub, Nat.reduceBEq, Int.reduceToNat, Int.reduceLE, Int.reduceLT, Int.reduceNeg, Nat.reduceMod, sid_ne1, sid_ne2, sid_inj, sid_mod, gT, TK.isInt, TK.agg, Array.toList, h3a, r6a, h4a, r8a, h5a, ofN_length]
  refine ⟨fun h => ?_, fun h => ?_⟩
  · have hi := hmem i h
    have hge : (ofN all).getD i 0 = ((all.getD i 0 : Nat) : Int) := ofN_getD h
    have hsn := take_snoc 0 h
    have hmi := mxL_snoc (all.take i) (all.getD i 0)
    rw [← hsn] at hmi
    have hmle := mxL_take (l := all) (k := i + 1)
    have hp6 := pop_le6 hi
    refine loop_of (fun (zb : Nat × Nat) s => match zb with | (w, m) => s.sl 3 = .own 6 w ∧ s.rw 6 = ⟨w, .sli 3 1 false (iL (cnts (all.take i) m))⟩ ∧ s.sl 4 = .own 8 u ∧ s.rw 8 = ⟨u, .sli 3 1 false (iL (ofN all))⟩ ∧ s.sl 5 = int i ∧ (mxL (all.take i) ≤ m ∧ m ≤ mxL (all.take (i + 1)))) (fun (w, m) => mxL (all.take (i + 1)) - m) ((v, mxL (all.take i))) (by refine ⟨?_, ?_, ?_, ?_, ?_, ⟨by omega, by omega⟩⟩ <;> (first | (simp (maxSteps := 5000000) -dsimp only [gr, Nat.reduceEqDiff, Nat.reduceLT, Nat.reduceAdd, Nat.reduceMod, Nat.reduceBEq, sid_mod, sid_ne1, sid_ne2, sid_inj, h3a, r6a, h4a, r8a, h5a]; first | done | rfl | (simp; done)) | assumption | rfl)) ?_
    intro (w, m) sb ⟨h3b, r6b, h4b, r8b, h5b, hIb⟩
    obtain ⟨hm1, hm2⟩ := hIb
    simp (maxSteps := 5000000) -dsimp only [↓gp, gq, reduceCtorEq, Nat.reduceEqDiff, Nat.reduceLT, Nat.reduceLeDiff, Nat.reduceAdd, Nat.reduceMul, Nat.reduceSub, Nat.reduceBEq, Int.reduceToNat, Int.reduceLE, Int.reduceLT, Int.reduceNeg, Nat.reduceMod, sid_ne1, sid_ne2, sid_inj, sid_mod, gT, TK.isInt, TK.agg, Array.toList, h3b, r6b, h4b, r8b, h5b, ofN_length, cnts_length, hge]
    refine ⟨h, h, askK_of (c_spec_l2Size _ (by omega)) ?_⟩
    simp (maxSteps := 5000000) -dsimp only [↓gp, gq, reduceCtorEq, Nat.reduceEqDiff, Nat.reduceLT, Nat.reduceLeDiff, Nat.reduceAdd, Nat.reduceMul, Nat.reduceSub, Nat.reduceBEq, Int.reduceToNat, Int.reduceLE, Int.reduceLT, Int.reduceNeg, Nat.reduceMod, sid_ne1, sid_ne2, sid_inj, sid_mod, gT, TK.isInt, TK.agg, Array.toList, h3b, r6b, h4b, r8b, h5b, ofN_length, cnts_length, hge]
    refine ⟨fun h2 => ⟨by omega, ?_⟩, fun h2 => ?_⟩
    · have e : cnts (all.take i) m ++ [0] = cnts (all.take i) (m + 1) := cnts_grow _ hm1
      exact again_of ((w + 1, m + 1)) (by refine ⟨?_, ?_, ?_, ?_, ?_, ⟨by dsimp only; omega, by dsimp only; omega⟩⟩ <;> (first | (simp (maxSteps := 5000000) -dsimp only [gr, Nat.reduceEqDiff, Nat.reduceLT, Nat.reduceAdd, Nat.reduceMod, Nat.reduceBEq, sid_mod, sid_ne1, sid_ne2, sid_inj, h3b, r6b, h4b, r8b, h5b, e]; first | done | rfl | (simp; done)) | assumption | rfl)) (by first | omega | (simp only; omega) | (dsimp only; omega) | (show _ < _; simp; omega))
    · have hgm : (cnts (all.take i) m).getD (popN (all.getD i 0)) 0 = (cntL (all.take i) (popN (all.getD i 0)) : Int) := cnts_getD _ (by omega)
      have hcl : cntL (all.take i) (popN (all.getD i 0)) ≤ 448 := by
        have := List.length_filter_le (fun s => popN s == popN (all.getD i 0)) (all.take i)
        rw [List.length_take] at this
        unfold cntL; omega
      have hw : IntKind.i64.wrap ((cntL (all.take i) (popN (all.getD i 0)) : Int) + 1) = (cntL (all.take i) (popN (all.getD i 0)) : Int) + 1 := wrap_id (by omega) (by omega)
      have hme : m = mxL (all.take (i + 1)) := by omega
      have hadd := cnts_add (all.take i) (all.getD i 0) m (by omega)
      rw [← hsn] at hadd
      refine ⟨by kernel_rfl, h, h, askK_of (c_spec_l2Size _ (by omega)) ?_⟩
      simp (maxSteps := 5000000) -dsimp only [↓gp, gq, reduceCtorEq, Nat.reduceEqDiff, Nat.reduceLT, Nat.reduceLeDiff, Nat.reduceAdd, Nat.reduceMul, Nat.reduceSub, Nat.reduceBEq, Int.reduceToNat, Int.reduceLE, Int.reduceLT, Int.reduceNeg, Nat.reduceMod, sid_ne1, sid_ne2, sid_inj, sid_mod, gT, TK.isInt, TK.agg, Array.toList, h3b, r6b, h4b, r8b, h5b, ofN_length, cnts_length, hge]
      refine ⟨h, h, askK_of (c_spec_l2Size _ (by omega)) ?_⟩
      simp (maxSteps := 5000000) -dsimp only [↓gp, gq, reduceCtorEq, Nat.reduceEqDiff, Nat.reduceLT, Nat.reduceLeDiff, Nat.reduceAdd, Nat.reduceMul, Nat.reduceSub, Nat.reduceBEq, Int.reduceToNat, Int.reduceLE, Int.reduceLT, Int.reduceNeg, Nat.reduceMod, sid_ne1, sid_ne2, sid_inj, sid_mod, gT, TK.isInt, TK.agg, Array.toList, h3b, r6b, h4b, r8b, h5b, ofN_length, cnts_length, hge, hgm, hw, hadd]
      refine ⟨by omega, by omega, by omega, by omega, by kernel_rfl, ?_⟩
      subst hme
      exact again_of ((i + 1, w, u)) (by refine ⟨?_, ?_, ?_, ?_, ?_, by dsimp only; omega⟩ <;> (first | (simp (maxSteps := 5000000) -dsimp only [gr, Nat.reduceEqDiff, Nat.reduceLT, Nat.reduceAdd, Nat.reduceMod, Nat.reduceBEq, sid_mod, sid_ne1, sid_ne2, sid_inj, h3a, r6a, h4a, r8a, h5a, h3b, r6b, h4b, r8b, h5b, wrap_nat h (by omega)]; first | done | rfl | (simp; done)) | assumption | rfl)) (by first | omega | (simp only; omega) | (dsimp only; omega) | (show _ < _; simp; omega))
  · have : i = all.length := by omega
    rw [this, List.take_length, hmx]
theorem c_spec_l13Sign (a b : Nat) (ha : a < 64) (hb : b < 64) (hp : popN b = popN a + 1) : AC Try.prog 175 [int a, int b] (.im (int (sgnN a b))) := by
  refine AC.go (rs := [.tmp 4]) T_ok mixed Try.func175 rfl rfl rfl (by kernel_rfl) fun hl => ?_
  have hpa := pop_le6 ha
  have hpb := pop_le6 hb
  have hand := iand_nat (a := a) (b := b) (by omega) (by omega)
  have hw1 : IntKind.i64.wrap ((popN b : Int) - (popN a : Int)) = 1 := by rw [wrap_id (by omega) (by omega)]; omega
  simp (maxSteps := 5000000) -dsimp only [↓gp, gq, reduceCtorEq, Nat.reduceEqDiff, Nat.reduceLT, Nat.reduceLeDiff, Nat.reduceAdd, Nat.reduceMul, Nat.reduceSub, Nat.reduceBEq, Int.reduceToNat, Int.reduceLE, Int.reduceLT, Int.reduceNeg, Nat.reduceMod, sid_ne1, sid_ne2, sid_inj, sid_mod, gT, TK.isInt, TK.agg, Array.toList, hand]
  refine ⟨fun h => askK_of (c_spec_l2Size b (by omega)) ?_, fun h => ?_⟩
  · have hs : a &&& b = a := by
      have h9 : ((a &&& b : Nat) : Int) = a := by simpa using h
      omega
    obtain ⟨hle, hx⟩ := sgn_diff a ha b hb hs
    simp (maxSteps := 5000000) -dsimp only [↓gp, gq, reduceCtorEq, Nat.reduceEqDiff, Nat.reduceLT, Nat.reduceLeDiff, Nat.reduceAdd, Nat.reduceMul, Nat.reduceSub, Nat.reduceBEq, Int.reduceToNat, Int.reduceLE, Int.reduceLT, Int.reduceNeg, Nat.reduceMod, sid_ne1, sid_ne2, sid_inj, sid_mod, gT, TK.isInt, TK.agg, Array.toList]
    refine askK_of (c_spec_l2Size a (by omega)) ?_
    have hne : a ≠ b := fun e => by rw [e] at hp; omega
    have hw2 : IntKind.i64.wrap ((b : Int) - (a : Int)) = ((b - a : Nat) : Int) := by rw [wrap_id (by omega) (by omega)]; omega
    have hw3 : IntKind.i64.wrap (((b - a : Nat) : Int) - 1) = ((b - a - 1 : Nat) : Int) := by rw [wrap_id (by omega) (by omega)]; omega
    have hand2 := iand_nat (a := b) (b := b - a - 1) (by omega) (by omega)
    have hlt : b &&& (b - a - 1) < 64 := by have : b &&& (b - a - 1) ≤ b := Nat.and_le_left; omega
    have hp6 := pop_le6 hlt
    have h11 : ((1 : Int) != 1) = false := rfl
    simp (maxSteps := 5000000) -dsimp only [↓gp, gq, reduceCtorEq, Nat.reduceEqDiff, Nat.reduceLT, Nat.reduceLeDiff, Nat.reduceAdd, Nat.reduceMul, Nat.reduceSub, Nat.reduceBEq, Int.reduceToNat, Int.reduceLE, Int.reduceLT, Int.reduceNeg, Nat.reduceMod, sid_ne1, sid_ne2, sid_inj, sid_mod, gT, TK.isInt, TK.agg, Array.toList, hw1, hw2, hw3, hand2, h11]
    refine askK_of (c_spec_l2Size _ (by omega)) ?_
    have hmod : ((popN (b &&& (b - a - 1)) : Nat) : Int).tmod 2 = ((popN (b &&& (b - a - 1)) % 2 : Nat) : Int) := by rw [tmod_nn (by omega)]; omega
    have hw4 : IntKind.i64.wrap (2 * ((popN (b &&& (b - a - 1)) % 2 : Nat) : Int)) = 2 * ((popN (b &&& (b - a - 1)) % 2 : Nat) : Int) := wrap_id (by omega) (by omega)
    have hw5 : IntKind.i64.wrap (1 - 2 * ((popN (b &&& (b - a - 1)) % 2 : Nat) : Int)) = 1 - 2 * ((popN (b &&& (b - a - 1)) % 2 : Nat) : Int) := wrap_id (by omega) (by omega)
    simp (maxSteps := 5000000) -dsimp only [↓gp, gq, reduceCtorEq, Nat.reduceEqDiff, Nat.reduceLT, Nat.reduceLeDiff, Nat.reduceAdd, Nat.reduceMul, Nat.reduceSub, Nat.reduceBEq, Int.reduceToNat, Int.reduceLE, Int.reduceLT, Int.reduceNeg, Nat.reduceMod, sid_ne1, sid_ne2, sid_inj, sid_mod, gT, TK.isInt, TK.agg, Array.toList, hmod, hw4, hw5]
    unfold sgnN
    rw [if_pos hs]
    split <;> omega
  · have hs : ¬ a &&& b = a := by
      intro e
      rw [e] at h
      simp at h
    unfold sgnN
    rw [if_neg hs]
theorem bordM_snoc {l h : List Nat} {i : Nat} (hi : i < l.length) : bordM (l.take i) h ++ [h.map fun b => sgnN (l.getD i 0) b] = bordM (l.take (i + 1)) h := by
  rw [take_snoc 0 hi]; simp [bordM]
theorem c_spec_l13Border (n : Int) (xs : List Int) (k : Nat) (hk : 1 ≤ k) (hk7 : k ≤ 7) : AC Try.prog 125 [.ag [int n, ints xs], int k] (.fr 31 1 (iLL (bordM (ordS (facF n xs) (k - 1) 64) (ordS (facF n xs) k 64)))) := by
  refine AC.go (rs := [.tmp 4]) T_ok mixed Try.func125 rfl rfl rfl (by kernel_rfl) fun hl => ?_
  have hw1 : IntKind.i64.wrap ((k : Int) - 1) = ((k - 1 : Nat) : Int) := by rw [wrap_id (by omega) (by omega)]; omega
  simp (maxSteps := 5000000) -dsimp only [↓gp, gq, reduceCtorEq, Nat.reduceEqDiff, Nat.reduceLT, Nat.reduceLeDiff, Nat.reduceAdd, Nat.reduceMul, Nat.reduceSub, Nat.reduceBEq, Int.reduceToNat, Int.reduceLE, Int.reduceLT, Int.reduceNeg, Nat.reduceMod, sid_ne1, sid_ne2, sid_inj, sid_mod, gT, TK.isInt, TK.agg, Array.toList, hw1]
  refine askK_of (c_spec_FacesOfSizeN n xs (k - 1)) ?_
  simp (maxSteps := 5000000) -dsimp only [↓gp, gq, reduceCtorEq, Nat.reduceEqDiff, Nat.reduceLT, Nat.reduceLeDiff, Nat.reduceAdd, Nat.reduceMul, Nat.reduceSub, Nat.reduceBEq, Int.reduceToNat, Int.reduceLE, Int.reduceLT, Int.reduceNeg, Nat.reduceMod, sid_ne1, sid_ne2, sid_inj, sid_mod, gT, TK.isInt, TK.agg, Array.toList]
  refine askK_of (c_spec_FacesOfSizeN n xs k) ?_
  simp (maxSteps := 5000000) -dsimp only [↓gp, gq, reduceCtorEq, Nat.reduceEqDiff, Nat.reduceLT, Nat.reduceLeDiff, Nat.reduceAdd, Nat.reduceMul, Nat.reduceSub, Nat.reduceBEq, Int.reduceToNat, Int.reduceLE, Int.reduceLT, Int.reduceNeg, Nat.reduceMod, sid_ne1, sid_ne2, sid_inj, sid_mod, gT, TK.isInt, TK.agg, Array.toList]
  have hl1 := ordS_len (facF n xs) (k - 1) (Nat.le_refl 64)
  have hl2 := ordS_len (facF n xs) k (Nat.le_refl 64)
  have hm1 : ∀ i, i < (ordS (facF n xs) (k - 1) 64).length → (ordS (facF n xs) (k - 1) 64).getD i 0 < 64 ∧ popN ((ordS (facF n xs) (k - 1) 64).getD i 0) = k - 1 := fun i hi => by
    have := mem_ordS.1 (getD_mem 0 hi); exact ⟨this.1, this.2.2⟩
  have hm2 : ∀ i, i < (ordS (facF n xs) k 64).length → (ordS (facF n xs) k 64).getD i 0 < 64 ∧ popN ((ordS (facF n xs) k 64).getD i 0) = k := fun i hi => by
    have := mem_ordS.1 (getD_mem 0 hi); exact ⟨this.1, this.2.2⟩
  generalize ordS (facF n xs) (k - 1) 64 = lo at *
  generalize ordS (facF n xs) k 64 = hi at *
  refine loop_of (fun (za : Nat × Nat × Nat × Nat) s => match za with | (i, v, a, b) => s.sl 5 = .own 11 v ∧ s.rw 11 = ⟨v, .sli 31 1 false (iLL (bordM (lo.take i) hi))⟩ ∧ s.sl 6 = .own 15 a ∧ s.rw 15 = ⟨a, .sli 3 1 false (iL (ofN lo))⟩ ∧ s.sl 7 = .own 18 b ∧ s.rw 18 = ⟨b, .sli 3 1 false (iL (ofN hi))⟩ ∧ s.sl 8 = int i ∧ (i ≤ lo.length)) (fun (i, v, a, b) => lo.length - i) ((0, 1, 1, 1)) (by refine ⟨?_, ?_, ?_, ?_, ?_, ?_, ?_, by simp⟩ <;> (first | (simp (maxSteps := 5000000) -dsimp only [gr, Nat.reduceEqDiff, Nat.reduceLT, Nat.reduceAdd, Nat.reduceMod, Nat.reduceBEq, sid_mod, sid_ne1, sid_ne2, sid_inj, bordM, iLL]; first | done | rfl | (simp; done)) | assumption | rfl)) ?_
  intro (i, v, a, b) sa ⟨h5a, r11a, h6a, r15a, h7a, r18a, h8a, hIa⟩
  have hbl : (bordM (lo.take i) hi).length = min i lo.length := by rw [bordM_length, List.length_take]
  simp (maxSteps := 5000000) -dsimp only [↓gp, gq, reduceCtorEq, Nat.reduceEqDiff, Nat.reduceLT, Nat.reduceLeDiff, Nat.reduceAdd, Nat.reduceMul, Nat.reduceSub, Nat.reduceBEq, Int.reduceToNat, Int.reduceLE, Int.reduceLT, Int.reduceNeg, Nat.reduceMod, sid_ne1, sid_ne2, sid_inj, sid_mod, gT, TK.isInt, TK.agg, Array.toList, h5a, r11a, h6a, r15a, h7a, r18a, h8a, ofN_length]
  refine ⟨fun h => ?_, fun h => ?_⟩
  · have hge : (ofN lo).getD i 0 = ((lo.getD i 0 : Nat) : Int) := ofN_getD h
    refine loop_of (fun (zb : Nat × Nat) s => match zb with | (j, u) => s.sl 5 = .own 11 v ∧ s.rw 11 = ⟨v, .sli 31 1 false (iLL (bordM (lo.take i) hi))⟩ ∧ s.sl 6 = .own 15 a ∧ s.rw 15 = ⟨a, .sli 3 1 false (iL (ofN lo))⟩ ∧ s.sl 7 = .own 18 b ∧ s.rw 18 = ⟨b, .sli 3 1 false (iL (ofN hi))⟩ ∧ s.sl 8 = int i ∧ s.sl 9 = .own 25 u ∧ s.rw 25 = ⟨u, .sli 3 1 false (iL ((hi.take j).map fun b => sgnN (lo.getD i 0) b))⟩ ∧ s.sl 10 = int j ∧ (j ≤ hi.length)) (fun (j, u) => hi.length - j) ((0, (sa.rw 25).ver + 1)) (by refine ⟨?_, ?_, ?_, ?_, ?_, ?_, ?_, ?_, ?_, ?_, by omega⟩ <;> (first | (simp (maxSteps := 5000000) -dsimp only [gr, Nat.reduceEqDiff, Nat.reduceLT, Nat.reduceAdd, Nat.reduceMod, Nat.reduceBEq, sid_mod, sid_ne1, sid_ne2, sid_inj, h5a, r11a, h6a, r15a, h7a, r18a, h8a]; first | done | rfl | (simp; done)) | assumption | rfl)) ?_
    intro (j, u) sb ⟨h5b, r11b, h6b, r15b, h7b, r18b, h8b, h9b, r25b, h10b, hIb⟩
    simp (maxSteps := 5000000) -dsimp only [↓gp, gq, reduceCtorEq, Nat.reduceEqDiff, Nat.reduceLT, Nat.reduceLeDiff, Nat.reduceAdd, Nat.reduceMul, Nat.reduceSub, Nat.reduceBEq, Int.reduceToNat, Int.reduceLE, Int.reduceLT, Int.reduceNeg, Nat.reduceMod, sid_ne1, sid_ne2, sid_inj, sid_mod, gT, TK.isInt, TK.agg, Array.toList, h5b, r11b, h6b, r15b, h7b, r18b, h8b, h9b, r25b, h10b, ofN_length]
    refine ⟨fun h2 => ?_, fun h2 => ?_⟩
    · have hge2 : (ofN hi).getD j 0 = ((hi.getD j 0 : Nat) : Int) := ofN_getD h2
      have ha := hm1 i h
      have hb := hm2 j h2
      simp (maxSteps := 5000000) -dsimp only [↓gp, gq, reduceCtorEq, Nat.reduceEqDiff, Nat.reduceLT, Nat.reduceLeDiff, Nat.reduceAdd, Nat.reduceMul, Nat.reduceSub, Nat.reduceBEq, Int.reduceToNat, Int.reduceLE, Int.reduceLT, Int.reduceNeg, Nat.reduceMod, sid_ne1, sid_ne2, sid_inj, sid_mod, gT, TK.isInt, TK.agg, Array.toList, h5b, r11b, h6b, r15b, h7b, r18b, h8b, h9b, r25b, h10b, ofN_length, hge, hge2]
      refine ⟨by kernel_rfl, h, h, h2, h2, askK_of (c_spec_l13Sign _ _ ha.1 hb.1 (by omega)) ?_⟩
      simp (maxSteps := 5000000) -dsimp only [↓gp, gq, reduceCtorEq, Nat.reduceEqDiff, Nat.reduceLT, Nat.reduceLeDiff, Nat.reduceAdd, Nat.reduceMul, Nat.reduceSub, Nat.reduceBEq, Int.reduceToNat, Int.reduceLE, Int.reduceLT, Int.reduceNeg, Nat.reduceMod, sid_ne1, sid_ne2, sid_inj, sid_mod, gT, TK.isInt, TK.agg, Array.toList, h5b, r11b, h6b, r15b, h7b, r18b, h8b, h9b, r25b, h10b, ofN_length, hge, hge2]
      have e : (hi.take (j + 1)).map (fun b => sgnN (lo.getD i 0) b) = (hi.take j).map (fun b => sgnN (lo.getD i 0) b) ++ [sgnN (lo.getD i 0) (hi.getD j 0)] := by rw [take_snoc 0 h2]; simp
      refine ⟨by rw [List.length_map, List.length_take]; omega, by kernel_rfl, ?_⟩
      exact again_of ((j + 1, u + 1)) (by refine ⟨?_, ?_, ?_, ?_, ?_, ?_, ?_, ?_, ?_, ?_, by dsimp only; omega⟩ <;> (first | (simp (maxSteps := 5000000) -dsimp only [gr, Nat.reduceEqDiff, Nat.reduceLT, Nat.reduceAdd, Nat.reduceMod, Nat.reduceBEq, sid_mod, sid_ne1, sid_ne2, sid_inj, h5b, r11b, h6b, r15b, h7b, r18b, h8b, h9b, r25b, h10b, wrap_nat h2 (by omega), e]; first | done | rfl | (simp; done)) | assumption | rfl)) (by first | omega | (simp only; omega) | (dsimp only; omega) | (show _ < _; simp; omega))
    · have hj : j = hi.length := by omega
      subst hj
      rw [List.take_length] at r25b
      refine orB_l ?_
      simp (maxSteps := 5000000) -dsimp only [↓gp, gq, reduceCtorEq, Nat.reduceEqDiff, Nat.reduceLT, Nat.reduceLeDiff, Nat.reduceAdd, Nat.reduceMul, Nat.reduceSub, Nat.reduceBEq, Int.reduceToNat, Int.reduceLE, Int.reduceLT, Int.reduceNeg, Nat.reduceMod, sid_ne1, sid_ne2, sid_inj, sid_mod, gT, TK.isInt, TK.agg, Array.toList, h5b, r11b, h6b, r15b, h7b, r18b, h8b, h9b, r25b, h10b, hbl, iLL_length]
      have e := bordM_snoc (h := hi) h
      refine ⟨by omega, ?_⟩
      exact again_of ((i + 1, v + 1, a, b)) (by refine ⟨?_, ?_, ?_, ?_, ?_, ?_, ?_, by dsimp only; omega⟩ <;> (first | (simp (maxSteps := 5000000) -dsimp only [gr, Nat.reduceEqDiff, Nat.reduceLT, Nat.reduceAdd, Nat.reduceMod, Nat.reduceBEq, sid_mod, sid_ne1, sid_ne2, sid_inj, h5a, r11a, h6a, r15a, h7a, r18a, h8a, h5b, r11b, h6b, r15b, h7b, r18b, h8b, h9b, r25b, h10b, wrap_nat h (by omega), iLL_snoc, e]; first | done | rfl | (simp; done)) | assumption | rfl)) (by first | omega | (simp only; omega) | (dsimp only; omega) | (show _ < _; simp; omega))
  · have : i = lo.length := by omega
    rw [this, List.take_length]
theorem rkF_in {f : Nat → Bool} {p : Int} {k : Nat} (h : k + 1 < dimN f) : rkF f p (k + 1) = rankM p (bordM (ordS f k 64) (ordS f (k + 1) 64)) := by
  unfold rkF
  rw [if_neg (by omega)]; rfl
theorem rkF_out {f : Nat → Bool} {p : Int} {k : Nat} (h : dimN f ≤ k) : rkF f p k = 0 := by
  unfold rkF
  rw [if_pos (.inr h)]
def holR (f : Nat → Bool) (p : Int) : List Int := if isP p = true then holF f p else []
theorem c_spec_HolesMod (n : Int) (xs : List Int) (p : Int) : AC Try.prog 81 [.ag [int n, ints xs], int p] (.fr 3 1 (iL (holR (facF n xs) p))) := by
  refine AC.go (rs := [.tmp 4]) T_ok mixed Try.func81 rfl rfl rfl (by kernel_rfl) fun hl => ?_
  simp (maxSteps := 5000000) -dsimp only [↓gp, gq, reduceCtorEq, Nat.reduceEqDiff, Nat.reduceLT, Nat.reduceLeDiff, Nat.reduceAdd, Nat.reduceMul, Nat.reduceSub, Nat.reduceBEq, Int.reduceToNat, Int.reduceLE, Int.reduceLT, Int.reduceNeg, Nat.reduceMod, sid_ne1, sid_ne2, sid_inj, sid_mod, gT, TK.isInt, TK.agg, Array.toList]
  refine askK_of (c_spec_FaceCounts n xs) ?_
  simp (maxSteps := 5000000) -dsimp only [↓gp, gq, reduceCtorEq, Nat.reduceEqDiff, Nat.reduceLT, Nat.reduceLeDiff, Nat.reduceAdd, Nat.reduceMul, Nat.reduceSub, Nat.reduceBEq, Int.reduceToNat, Int.reduceLE, Int.reduceLT, Int.reduceNeg, Nat.reduceMod, sid_ne1, sid_ne2, sid_inj, sid_mod, gT, TK.isInt, TK.agg, Array.toList]
  refine askK_of (c_spec_IsFieldPrime p) ?_
  simp (maxSteps := 5000000) -dsimp only [↓gp, gq, reduceCtorEq, Nat.reduceEqDiff, Nat.reduceLT, Nat.reduceLeDiff, Nat.reduceAdd, Nat.reduceMul, Nat.reduceSub, Nat.reduceBEq, Int.reduceToNat, Int.reduceLE, Int.reduceLT, Int.reduceNeg, Nat.reduceMod, sid_ne1, sid_ne2, sid_inj, sid_mod, gT, TK.isInt, TK.agg, Array.toList]
  unfold holR
  refine ⟨fun hp => ?_, fun hp => ?_⟩
  · have hp : isP p = false := by simpa using hp
    rw [hp]; rfl
  · have hp : isP p = true := by simpa using hp
    rw [if_pos hp]
    have hd7 := dimN_le (facF n xs)
    have hfl := fvec_length (facF n xs)
    generalize hf : facF n xs = f at *
    refine loop_of (fun (za : Nat × Nat × Nat) s => match za with | (k, v, w) => s.sl 1 = int p ∧ s.sl 2 = .ref 2 1 0 ∧ s.rw 2 = ⟨1, .box 57 [int n, ints xs]⟩ ∧ s.sl 5 = .own 10 v ∧ s.rw 10 = ⟨v, .sli 3 1 false (iL ((holF f p).take k))⟩ ∧ s.sl 6 = .own 12 w ∧ s.rw 12 = ⟨w, .sli 3 1 false (iL (fvec f))⟩ ∧ s.sl 7 = int (rkF f p k) ∧ s.sl 8 = int k ∧ (k ≤ dimN f)) (fun (k, v, w) => dimN f - k) ((0, 1, 1)) (by refine ⟨?_, ?_, ?_, ?_, ?_, ?_, ?_, ?_, ?_, by simp⟩ <;> (first | (simp (maxSteps := 5000000) -dsimp only [gr, Nat.reduceEqDiff, Nat.reduceLT, Nat.reduceAdd, Nat.reduceMod, Nat.reduceBEq, sid_mod, sid_ne1, sid_ne2, sid_inj, rkF]; first | done | rfl | (simp; done)) | assumption | rfl)) ?_
    intro (k, v, w) sa ⟨h1a, h2a, r2a, h5a, r10a, h6a, r12a, h7a, h8a, hIa⟩
    simp (maxSteps := 5000000) -dsimp only [↓gp, gq, reduceCtorEq, Nat.reduceEqDiff, Nat.reduceLT, Nat.reduceLeDiff, Nat.reduceAdd, Nat.reduceMul, Nat.reduceSub, Nat.reduceBEq, Int.reduceToNat, Int.reduceLE, Int.reduceLT, Int.reduceNeg, Nat.reduceMod, sid_ne1, sid_ne2, sid_inj, sid_mod, gT, TK.isInt, TK.agg, Array.toList, h1a, h2a, r2a, h5a, r10a, h6a, r12a, h7a, h8a, hfl]
    refine ⟨fun h => ?_, fun h => ?_⟩
    · have hr1 := rkF_le f p k
      have hr2 := rkF_le f p (k + 1)
      have hol := ordS_len f k (Nat.le_refl 64)
      have hg := fvec_getD f h
      have hwk := wrap_nat h (by omega)
      have hw1 : IntKind.i64.wrap (((ordS f k 64).length : Int) - (rkF f p k : Int)) = ((ordS f k 64).length : Int) - (rkF f p k : Int) := wrap_id (by omega) (by omega)
      have hw2 : IntKind.i64.wrap (((ordS f k 64).length : Int) - (rkF f p k : Int) - (rkF f p (k + 1) : Int)) = ((ordS f k 64).length : Int) - (rkF f p k : Int) - (rkF f p (k + 1) : Int) := wrap_id (by omega) (by omega)
      have hts : (holF f p).take (k + 1) = (holF f p).take k ++ [((ordS f k 64).length : Int) - rkF f p k - rkF f p (k + 1)] := by rw [take_snoc 0 (by rw [holF_length]; exact h), holF_getD f p h]
      have htl : ((holF f p).take k).length ≤ 7 := by rw [List.length_take, holF_length]; omega
      simp (maxSteps := 5000000) -dsimp only [↓gp, gq, reduceCtorEq, Nat.reduceEqDiff, Nat.reduceLT, Nat.reduceLeDiff, Nat.reduceAdd, Nat.reduceMul, Nat.reduceSub, Nat.reduceBEq, Int.reduceToNat, Int.reduceLE, Int.reduceLT, Int.reduceNeg, Nat.reduceMod, sid_ne1, sid_ne2, sid_inj, sid_mod, gT, TK.isInt, TK.agg, Array.toList, h1a, h2a, r2a, h5a, r10a, h6a, r12a, h7a, h8a, hfl, hwk]
      refine ⟨fun h2 => askK_of (hf ▸ c_spec_l13Border n xs (k + 1) (by omega) (by omega)) ?_, fun h2 => ?_⟩
      · have hin := rkF_in (p := p) h2
        rw [Nat.add_sub_cancel]
        have hb1 := bordM_length (ordS f k 64) (ordS f (k + 1) 64)
        have hb2 := bordM_rect (ordS f k 64) (ordS f (k + 1) 64)
        have hb3 := bordM_len0 (ordS f k 64) (ordS f (k + 1) 64)
        have hol2 := ordS_len f (k + 1) (Nat.le_refl 64)
        simp (maxSteps := 5000000) -dsimp only [↓gp, gq, reduceCtorEq, Nat.reduceEqDiff, Nat.reduceLT, Nat.reduceLeDiff, Nat.reduceAdd, Nat.reduceMul, Nat.reduceSub, Nat.reduceBEq, Int.reduceToNat, Int.reduceLE, Int.reduceLT, Int.reduceNeg, Nat.reduceMod, sid_ne1, sid_ne2, sid_inj, sid_mod, gT, TK.isInt, TK.agg, Array.toList, h1a, h2a, r2a, h5a, r10a, h6a, r12a, h7a, h8a, hfl, hwk]
        refine askK_of (c_spec_l13Rank _ p hp (by omega) hb2 (by omega)) ?_
        rw [← hin]
        simp (maxSteps := 5000000) -dsimp only [↓gp, gq, reduceCtorEq, Nat.reduceEqDiff, Nat.reduceLT, Nat.reduceLeDiff, Nat.reduceAdd, Nat.reduceMul, Nat.reduceSub, Nat.reduceBEq, Int.reduceToNat, Int.reduceLE, Int.reduceLT, Int.reduceNeg, Nat.reduceMod, sid_ne1, sid_ne2, sid_inj, sid_mod, gT, TK.isInt, TK.agg, Array.toList, h1a, h2a, r2a, h5a, r10a, h6a, r12a, h7a, h8a, hfl, hwk, hg, hw1, hw2]
        refine ⟨h, h, by omega, ?_⟩
        exact again_of ((k + 1, v + 1, w)) (by refine ⟨?_, ?_, ?_, ?_, ?_, ?_, ?_, ?_, ?_, by dsimp only; omega⟩ <;> (first | (simp (maxSteps := 5000000) -dsimp only [gr, Nat.reduceEqDiff, Nat.reduceLT, Nat.reduceAdd, Nat.reduceMod, Nat.reduceBEq, sid_mod, sid_ne1, sid_ne2, sid_inj, h1a, h2a, r2a, h5a, r10a, h6a, r12a, h7a, h8a, hwk, hw1, hw2, hts]; first | done | rfl | (simp; done)) | assumption | rfl)) (by first | omega | (simp only; omega) | (dsimp only; omega) | (show _ < _; simp; omega))
      · have hz := rkF_out (p := p) (show dimN f ≤ k + 1 by omega)
        rw [hz, Int.natCast_zero, Int.sub_zero] at hw2
        rw [hz, Int.natCast_zero, Int.sub_zero] at hts
        simp (maxSteps := 5000000) -dsimp only [↓gp, gq, reduceCtorEq, Nat.reduceEqDiff, Nat.reduceLT, Nat.reduceLeDiff, Nat.reduceAdd, Nat.reduceMul, Nat.reduceSub, Nat.reduceBEq, Int.reduceToNat, Int.reduceLE, Int.reduceLT, Int.reduceNeg, Nat.reduceMod, sid_ne1, sid_ne2, sid_inj, sid_mod, gT, TK.isInt, TK.agg, Array.toList, h1a, h2a, r2a, h5a, r10a, h6a, r12a, h7a, h8a, hfl, hwk, hg, hw1]
        refine ⟨h, h, by omega, ?_⟩
        have hw3 : IntKind.i64.wrap (((ordS f k 64).length : Int) - (rkF f p k : Int) - 0) = ((ordS f k 64).length : Int) - (rkF f p k : Int) := by rw [Int.sub_zero]; exact hw2
        exact again_of ((k + 1, v + 1, w)) (by refine ⟨?_, ?_, ?_, ?_, ?_, ?_, ?_, ?_, ?_, by dsimp only; omega⟩ <;> (first | (simp (maxSteps := 5000000) -dsimp only [gr, Nat.reduceEqDiff, Nat.reduceLT, Nat.reduceAdd, Nat.reduceMod, Nat.reduceBEq, sid_mod, sid_ne1, sid_ne2, sid_inj, h1a, h2a, r2a, h5a, r10a, h6a, r12a, h7a, h8a, hwk, hw1, hw3, hts, hz, Int.natCast_zero]; first | done | rfl | (simp; done)) | assumption | rfl)) (by first | omega | (simp only; omega) | (dsimp only; omega) | (show _ < _; simp; omega))
    · have : k = (holF f p).length := by rw [holF_length]; omega
      rw [this, List.take_length]
end Go.Proofs.Ytnfpeinbdfmlnaa

namespace Go.Proofs.Ytnfpeinbdfmlnaa
open Go.Abs
set_option linter.unusedSimpArgs false
set_option linter.unusedVariables false

theorem szOf_nat {t : Nat} (h : t < 64) : szOf (t : Int) = (popN t : Nat) := by rw [szOf, if_pos (by omega)]; simp
theorem topP_succ (f : Nat → Bool) (m : Nat) : topP f (m + 1) = if f m = true then max (topP f m) (popN m + 1) else topP f m := rfl
theorem c_impl_topSize (f : Nat → Bool) : AC Try.prog 176 [u64 (maskF f 64 : Nat)] (.im (int ((dimN f : Int) - 1))) := by
  refine AC.go (rs := [.tmp 2]) T_ok mixed Try.func176 rfl rfl rfl (by kernel_rfl) fun hl => ?_
  simp (maxSteps := 5000000) -dsimp only [↓gp, gq, reduceCtorEq, Nat.reduceEqDiff, Nat.reduceLT, Nat.reduceLeDiff, Nat.reduceAdd, Nat.reduceMul, Nat.reduceSub, Nat.reduceBEq, Int.reduceToNat, Int.reduceLE, Int.reduceLT, Int.reduceNeg, Nat.reduceMod, sid_ne1, sid_ne2, sid_inj, sid_mod, gT, TK.isInt, TK.agg, Array.toList]
  have hm1 := maskF_lt f 64
  refine loop_of (fun (m : Nat) s => s.sl 0 = u64 (maskF f 64 : Nat) ∧ s.sl 3 = int ((topP f m : Int) - 1) ∧ s.sl 4 = int m ∧ (m ≤ 64)) (fun m => 64 - m) (0) (by refine ⟨?_, ?_, ?_, by omega⟩ <;> (first | (simp (maxSteps := 5000000) -dsimp only [gr, Nat.reduceEqDiff, Nat.reduceLT, Nat.reduceAdd, Nat.reduceMod, Nat.reduceBEq, sid_mod, sid_ne1, sid_ne2, sid_inj, topP]; first | done | rfl | (simp; done)) | assumption | rfl)) ?_
  intro m sa ⟨h0a, h3a, h4a, hIa⟩
  simp (maxSteps := 5000000) -dsimp only [↓gp, gq, reduceCtorEq, Nat.reduceEqDiff, Nat.reduceLT, Nat.reduceLeDiff, Nat.reduceAdd, Nat.reduceMul, Nat.reduceSub, Nat.reduceBEq, Int.reduceToNat, Int.reduceLE, Int.reduceLT, Int.reduceNeg, Nat.reduceMod, sid_ne1, sid_ne2, sid_inj, sid_mod, gT, TK.isInt, TK.agg, Array.toList, h0a, h3a, h4a]
  refine ⟨fun h => askK_of (c_impl_hasSet (maskF f 64) m (by omega) (by omega)) ?_, fun h => ?_⟩
  · have h : m < 64 := by omega
    rw [mask_bit64 f h]
    simp (maxSteps := 5000000) -dsimp only [↓gp, gq, reduceCtorEq, Nat.reduceEqDiff, Nat.reduceLT, Nat.reduceLeDiff, Nat.reduceAdd, Nat.reduceMul, Nat.reduceSub, Nat.reduceBEq, Int.reduceToNat, Int.reduceLE, Int.reduceLT, Int.reduceNeg, Nat.reduceMod, sid_ne1, sid_ne2, sid_inj, sid_mod, gT, TK.isInt, TK.agg, Array.toList, h0a, h3a, h4a]
    refine ⟨fun hf => askK_of (c_impl_SizeOf _) ?_, fun hf => ?_⟩
    · simp (maxSteps := 5000000) -dsimp only [↓gp, gq, reduceCtorEq, Nat.reduceEqDiff, Nat.reduceLT, Nat.reduceLeDiff, Nat.reduceAdd, Nat.reduceMul, Nat.reduceSub, Nat.reduceBEq, Int.reduceToNat, Int.reduceLE, Int.reduceLT, Int.reduceNeg, Nat.reduceMod, sid_ne1, sid_ne2, sid_inj, sid_mod, gT, TK.isInt, TK.agg, Array.toList, h0a, h3a, h4a, szOf_nat h]
      refine ⟨fun hg => askK_of (c_impl_SizeOf _) ?_, fun hg => ?_⟩
      · simp (maxSteps := 5000000) -dsimp only [↓gp, gq, reduceCtorEq, Nat.reduceEqDiff, Nat.reduceLT, Nat.reduceLeDiff, Nat.reduceAdd, Nat.reduceMul, Nat.reduceSub, Nat.reduceBEq, Int.reduceToNat, Int.reduceLE, Int.reduceLT, Int.reduceNeg, Nat.reduceMod, sid_ne1, sid_ne2, sid_inj, sid_mod, gT, TK.isInt, TK.agg, Array.toList, h0a, h3a, h4a, szOf_nat h]
        have e : (topP f (m + 1) : Int) - 1 = (popN m : Int) := by rw [topP_succ, if_pos hf]; omega
        exact again_of (m + 1) (by refine ⟨?_, ?_, ?_, by omega⟩ <;> (first | (simp (maxSteps := 5000000) -dsimp only [gr, Nat.reduceEqDiff, Nat.reduceLT, Nat.reduceAdd, Nat.reduceMod, Nat.reduceBEq, sid_mod, sid_ne1, sid_ne2, sid_inj, h0a, h3a, h4a, wrap_nat h (by omega), szOf_nat h, e]; first | done | rfl | (simp; done)) | assumption | rfl)) (by first | omega | (simp only; omega) | (dsimp only; omega) | (show _ < _; simp; omega))
      · have e : topP f (m + 1) = topP f m := by rw [topP_succ, if_pos hf]; omega
        exact again_of (m + 1) (by refine ⟨?_, ?_, ?_, by omega⟩ <;> (first | (simp (maxSteps := 5000000) -dsimp only [gr, Nat.reduceEqDiff, Nat.reduceLT, Nat.reduceAdd, Nat.reduceMod, Nat.reduceBEq, sid_mod, sid_ne1, sid_ne2, sid_inj, h0a, h3a, h4a, wrap_nat h (by omega), e]; first | done | rfl | (simp; done)) | assumption | rfl)) (by first | omega | (simp only; omega) | (dsimp only; omega) | (show _ < _; simp; omega))
    · have e : topP f (m + 1) = topP f m := by rw [topP_succ, if_neg (by rw [hf]; decide)]
      exact again_of (m + 1) (by refine ⟨?_, ?_, ?_, by omega⟩ <;> (first | (simp (maxSteps := 5000000) -dsimp only [gr, Nat.reduceEqDiff, Nat.reduceLT, Nat.reduceAdd, Nat.reduceMod, Nat.reduceBEq, sid_mod, sid_ne1, sid_ne2, sid_inj, h0a, h3a, h4a, wrap_nat h (by omega), e]; first | done | rfl | (simp; done)) | assumption | rfl)) (by first | omega | (simp only; omega) | (dsimp only; omega) | (show _ < _; simp; omega))
  · have : m = 64 := by omega
    subst this; rfl
theorem ordS_step {f : Nat → Bool} {m j : Nat} (hf : f m = true) : ordS f j (m + 1) = if j = popN m then ordS f j m ++ [m] else ordS f j m := by
  rw [ordS_succ, hf]
  by_cases e : j = popN m
  · subst e; simp
  · have : ¬ popN m = j := fun h => e h.symm
    simp [e, this]
theorem ordS_stay {f : Nat → Bool} {m j : Nat} (hf : f m = false) : ordS f j (m + 1) = ordS f j m := by rw [ordS_succ, hf]; simp
def sizesL (f : Nat → Bool) : Mat := (List.range (dimN f)).map fun k => ofN (ordS f k 64)
theorem sizesL_length (f : Nat → Bool) : (sizesL f).length = dimN f := by simp [sizesL]
theorem sizesL_getD (f : Nat → Bool) {k : Nat} (h : k < dimN f) : (sizesL f).getD k [] = ofN (ordS f k 64) := by simp [sizesL, List.getD, h]
theorem c_impl_bySize0 (f : Nat → Bool) : AC Try.prog 131 [u64 (maskF f 64 : Nat)] (.tb 31 3 ((List.range (dimN f)).map fun j => iL (ofN (ordS f j 64)))) := by
  refine AC.go (rs := [.tmp 2]) T_ok mixed Try.func131 rfl rfl rfl (by kernel_rfl) fun hl => ?_
  have hm1 := maskF_lt f 64
  have hd := dimN_le f
  simp (maxSteps := 5000000) -dsimp only [↓gp, gq, reduceCtorEq, Nat.reduceEqDiff, Nat.reduceLT, Nat.reduceLeDiff, Nat.reduceAdd, Nat.reduceMul, Nat.reduceSub, Nat.reduceBEq, Int.reduceToNat, Int.reduceLE, Int.reduceLT, Int.reduceNeg, Nat.reduceMod, sid_ne1, sid_ne2, sid_inj, sid_mod, gT, TK.isInt, TK.agg, Array.toList]
  refine askK_of (c_impl_topSize f) ?_
  have hw : IntKind.i64.wrap ((dimN f : Int) - 1 + 1) = (dimN f : Int) := by rw [wrap_id (by omega) (by omega)]; omega
  simp (maxSteps := 5000000) -dsimp only [↓gp, gq, reduceCtorEq, Nat.reduceEqDiff, Nat.reduceLT, Nat.reduceLeDiff, Nat.reduceAdd, Nat.reduceMul, Nat.reduceSub, Nat.reduceBEq, Int.reduceToNat, Int.reduceLE, Int.reduceLT, Int.reduceNeg, Nat.reduceMod, sid_ne1, sid_ne2, sid_inj, sid_mod, gT, TK.isInt, TK.agg, Array.toList, hw]
  refine ⟨by omega, by omega, ?_⟩
  refine loop_nils (k := 9) (v := 1) (e := 31) (e2 := 3) (n := dimN f) (by simp (maxSteps := 5000000) -dsimp only [gr, Nat.reduceEqDiff, Nat.reduceLT, Nat.reduceAdd, Nat.reduceMod, Nat.reduceBEq, sid_mod, sid_ne1, sid_ne2, sid_inj, hw]) (fun j => by simp (maxSteps := 5000000) -dsimp only [gr, Nat.reduceEqDiff, Nat.reduceLT, Nat.reduceAdd, Nat.reduceMod, Nat.reduceBEq, sid_mod, sid_ne1, sid_ne2, sid_inj]) (fun (m : Nat) s => s.sl 0 = u64 (maskF f 64 : Nat) ∧ s.sl 3 = .own 9 1 ∧ s.sl 4 = int m ∧ (m ≤ 64 ∧ TabF s.rw 9 1 31 3 (dimN f) (fun j => 1 + (ordS f j m).length) (fun j => ofN (ordS f j m)))) (fun m => 64 - m) (0) (fun sX htX hslX hoX => (by refine ⟨?_, ?_, ?_, ⟨by omega, htX⟩⟩ <;> (first | (simp (maxSteps := 5000000) -dsimp only [gr, Nat.reduceEqDiff, Nat.reduceLT, Nat.reduceAdd, Nat.reduceMod, Nat.reduceBEq, sid_mod, sid_ne1, sid_ne2, sid_inj, hslX, hoX]; first | done | rfl | (simp; done)) | assumption | rfl))) ?_
  intro m sa ⟨h0a, h3a, h4a, hIa⟩
  obtain ⟨hm, ht⟩ := hIa
  simp (maxSteps := 5000000) -dsimp only [↓gp, gq, reduceCtorEq, Nat.reduceEqDiff, Nat.reduceLT, Nat.reduceLeDiff, Nat.reduceAdd, Nat.reduceMul, Nat.reduceSub, Nat.reduceBEq, Int.reduceToNat, Int.reduceLE, Int.reduceLT, Int.reduceNeg, Nat.reduceMod, sid_ne1, sid_ne2, sid_inj, sid_mod, gT, TK.isInt, TK.agg, Array.toList, h0a, h3a, h4a]
  refine ⟨fun h => askK_of (c_impl_hasSet (maskF f 64) m (by omega) (by omega)) ?_, fun h => ?_⟩
  · have h : m < 64 := by omega
    rw [mask_bit64 f h]
    simp (maxSteps := 5000000) -dsimp only [↓gp, gq, reduceCtorEq, Nat.reduceEqDiff, Nat.reduceLT, Nat.reduceLeDiff, Nat.reduceAdd, Nat.reduceMul, Nat.reduceSub, Nat.reduceBEq, Int.reduceToNat, Int.reduceLE, Int.reduceLT, Int.reduceNeg, Nat.reduceMod, sid_ne1, sid_ne2, sid_inj, sid_mod, gT, TK.isInt, TK.agg, Array.toList, h0a, h3a, h4a]
    refine ⟨fun hf => askK_of (c_impl_SizeOf _) ?_, fun hf => ?_⟩
    · have hk : popN m < dimN f := topP_ge 64 m h hf
      have hr := ht.row (popN m) hk
      have hol := ordS_len f (popN m) hm
      simp (maxSteps := 5000000) -dsimp only [↓gp, gq, reduceCtorEq, Nat.reduceEqDiff, Nat.reduceLT, Nat.reduceLeDiff, Nat.reduceAdd, Nat.reduceMul, Nat.reduceSub, Nat.reduceBEq, Int.reduceToNat, Int.reduceLE, Int.reduceLT, Int.reduceNeg, Nat.reduceMod, sid_ne1, sid_ne2, sid_inj, sid_mod, gT, TK.isInt, TK.agg, Array.toList, h0a, h3a, h4a, szOf_nat h, ht.top, cellsF_length, ld_cellsF, hr, ofN_length]
      refine ⟨hk, hk, by omega, hk, by omega, again_of (m + 1) ⟨(by (first | (simp (maxSteps := 5000000) -dsimp only [gr, Nat.reduceEqDiff, Nat.reduceLT, Nat.reduceAdd, Nat.reduceMod, Nat.reduceBEq, sid_mod, sid_ne1, sid_ne2, sid_inj, h0a, h3a, h4a, wrap_nat h (by omega)]; first | done | rfl | (simp; done)) | assumption | rfl)), (by (first | (simp (maxSteps := 5000000) -dsimp only [gr, Nat.reduceEqDiff, Nat.reduceLT, Nat.reduceAdd, Nat.reduceMod, Nat.reduceBEq, sid_mod, sid_ne1, sid_ne2, sid_inj, h0a, h3a, h4a, wrap_nat h (by omega)]; first | done | rfl | (simp; done)) | assumption | rfl)), (by (first | (simp (maxSteps := 5000000) -dsimp only [gr, Nat.reduceEqDiff, Nat.reduceLT, Nat.reduceAdd, Nat.reduceMod, Nat.reduceBEq, sid_mod, sid_ne1, sid_ne2, sid_inj, h0a, h3a, h4a, wrap_nat h (by omega)]; first | done | rfl | (simp; done)) | assumption | rfl)), ⟨by omega, ht.add hk (r := ofN (ordS f (popN m) m) ++ [(m : Int)]) (by simp (maxSteps := 5000000) -dsimp only [gr, Nat.reduceEqDiff, Nat.reduceLT, Nat.reduceAdd, Nat.reduceMod, Nat.reduceBEq, sid_mod, sid_ne1, sid_ne2, sid_inj, h0a, h3a, h4a]) (by simp (maxSteps := 5000000) -dsimp only [gr, Nat.reduceEqDiff, Nat.reduceLT, Nat.reduceAdd, Nat.reduceMod, Nat.reduceBEq, sid_mod, sid_ne1, sid_ne2, sid_inj, h0a, h3a, h4a]) (fun x hx => by simp (maxSteps := 5000000) -dsimp only [gr, Nat.reduceEqDiff, Nat.reduceLT, Nat.reduceAdd, Nat.reduceMod, Nat.reduceBEq, sid_mod, sid_ne1, sid_ne2, sid_inj, h0a, h3a, h4a, hx]) (fun j _ => ?_) (fun j _ => ?_)⟩⟩ (by first | omega | (simp only; omega) | (dsimp only; omega) | (show _ < _; simp; omega))⟩
      · rw [ordS_step hf]
        split
        · rename_i e; subst e; simp; omega
        · rfl
      · rw [ordS_step hf]
        split
        · rename_i e; subst e; rw [ofN_append]; rfl
        · rfl
    · have e : ∀ j, ordS f j (m + 1) = ordS f j m := fun j => ordS_stay hf
      refine again_of (m + 1) ⟨(by (first | (simp (maxSteps := 5000000) -dsimp only [gr, Nat.reduceEqDiff, Nat.reduceLT, Nat.reduceAdd, Nat.reduceMod, Nat.reduceBEq, sid_mod, sid_ne1, sid_ne2, sid_inj, h0a, h3a, h4a, wrap_nat h (by omega)]; first | done | rfl | (simp; done)) | assumption | rfl)), (by (first | (simp (maxSteps := 5000000) -dsimp only [gr, Nat.reduceEqDiff, Nat.reduceLT, Nat.reduceAdd, Nat.reduceMod, Nat.reduceBEq, sid_mod, sid_ne1, sid_ne2, sid_inj, h0a, h3a, h4a, wrap_nat h (by omega)]; first | done | rfl | (simp; done)) | assumption | rfl)), (by (first | (simp (maxSteps := 5000000) -dsimp only [gr, Nat.reduceEqDiff, Nat.reduceLT, Nat.reduceAdd, Nat.reduceMod, Nat.reduceBEq, sid_mod, sid_ne1, sid_ne2, sid_inj, h0a, h3a, h4a, wrap_nat h (by omega)]; first | done | rfl | (simp; done)) | assumption | rfl)), ⟨by omega, ?_⟩⟩ (by first | omega | (simp only; omega) | (dsimp only; omega) | (show _ < _; simp; omega))
      simp only [e]
      exact ht.same (by simp (maxSteps := 5000000) -dsimp only [gr, Nat.reduceEqDiff, Nat.reduceLT, Nat.reduceAdd, Nat.reduceMod, Nat.reduceBEq, sid_mod, sid_ne1, sid_ne2, sid_inj]) (fun x => by simp (maxSteps := 5000000) -dsimp only [gr, Nat.reduceEqDiff, Nat.reduceLT, Nat.reduceAdd, Nat.reduceMod, Nat.reduceBEq, sid_mod, sid_ne1, sid_ne2, sid_inj])
  · have : m = 64 := by omega
    subst this
    exact out2_tabF ht (by decide) (by omega)
theorem c_impl_bySize (f : Nat → Bool) : AC Try.prog 131 [u64 (maskF f 64 : Nat)] (.fr 31 1 (iLL (sizesL f))) := by
  have := (c_impl_bySize0 f).flat
  unfold sizesL iLL
  rw [List.map_map] at this ⊢
  exact this
theorem c_impl_borderSign (a b : Nat) (ha : a < 64) (hb : b < 64) (hp : popN b = popN a + 1) : AC Try.prog 179 [int a, int b] (.im (int (sgnN a b))) := by
  refine AC.go (rs := [.tmp 4]) T_ok mixed Try.func179 rfl rfl rfl (by kernel_rfl) fun hl => ?_
  have hpa := pop_le6 ha
  have hand := iandnot_nat (a := a) (b := b) (by omega) (by omega)
  simp (maxSteps := 5000000) -dsimp only [↓gp, gq, reduceCtorEq, Nat.reduceEqDiff, Nat.reduceLT, Nat.reduceLeDiff, Nat.reduceAdd, Nat.reduceMul, Nat.reduceSub, Nat.reduceBEq, Int.reduceToNat, Int.reduceLE, Int.reduceLT, Int.reduceNeg, Nat.reduceMod, sid_ne1, sid_ne2, sid_inj, sid_mod, gT, TK.isInt, TK.agg, Array.toList, hand]
  refine ⟨fun h => ?_, fun h => ?_⟩
  · have hs : ¬ a &&& b = a := by
      intro e
      rw [xor_and_zero.2 e] at h
      simp at h
    unfold sgnN; rw [if_neg hs]
  · have hs : a &&& b = a := xor_and_zero.1 (by
      have h9 : ((a ^^^ (a &&& b) : Nat) : Int) = 0 := by simpa using h
      omega)
    obtain ⟨hle, hx⟩ := sgn_diff a ha b hb hs
    have hne : a ≠ b := fun e => by rw [e] at hp; omega
    have hand2 := iandnot_nat (a := b) (b := a) (by omega) (by omega)
    rw [Nat.and_comm b a, hx] at hand2
    have hw3 : IntKind.i64.wrap (((b - a : Nat) : Int) - 1) = ((b - a - 1 : Nat) : Int) := by rw [wrap_id (by omega) (by omega)]; omega
    have hand3 := iand_nat (a := b) (b := b - a - 1) (by omega) (by omega)
    have hlt : b &&& (b - a - 1) < 64 := by have : b &&& (b - a - 1) ≤ b := Nat.and_le_left; omega
    have hp6 := pop_le6 hlt
    have hmod : ((popN (b &&& (b - a - 1)) : Nat) : Int).tmod 2 = ((popN (b &&& (b - a - 1)) % 2 : Nat) : Int) := by rw [tmod_nn (by omega)]; omega
    simp (maxSteps := 5000000) -dsimp only [↓gp, gq, reduceCtorEq, Nat.reduceEqDiff, Nat.reduceLT, Nat.reduceLeDiff, Nat.reduceAdd, Nat.reduceMul, Nat.reduceSub, Nat.reduceBEq, Int.reduceToNat, Int.reduceLE, Int.reduceLT, Int.reduceNeg, Nat.reduceMod, sid_ne1, sid_ne2, sid_inj, sid_mod, gT, TK.isInt, TK.agg, Array.toList, hand2, hw3, hand3]
    refine askK_of (c_impl_SizeOf _) ?_
    simp (maxSteps := 5000000) -dsimp only [↓gp, gq, reduceCtorEq, Nat.reduceEqDiff, Nat.reduceLT, Nat.reduceLeDiff, Nat.reduceAdd, Nat.reduceMul, Nat.reduceSub, Nat.reduceBEq, Int.reduceToNat, Int.reduceLE, Int.reduceLT, Int.reduceNeg, Nat.reduceMod, sid_ne1, sid_ne2, sid_inj, sid_mod, gT, TK.isInt, TK.agg, Array.toList, szOf_nat hlt, hmod]
    unfold sgnN
    rw [if_pos hs]
    refine ⟨by decide, fun h0 => ?_, fun h0 => ?_⟩
    · rw [if_pos (by have h9 : ((popN (b &&& (b - a - 1)) % 2 : Nat) : Int) = 0 := by simpa using h0
                     omega)]
    · rw [if_neg (by intro e; rw [e] at h0; simp at h0)]
theorem sgn_row {lo hi : List Nat} {i j : Nat} (hi' : i < lo.length) (hj : j < hi.length) : (hi.map fun b => sgnN (lo.getD i 0) b).getD j 0 = sgnN (lo.getD i 0) (hi.getD j 0) := by
  simp [List.getD, hj]
theorem c_impl_borderOf (lo hi : List Nat) (k : Nat) (hl1 : lo.length ≤ 64) (hl2 : hi.length ≤ 64) (hm1 : ∀ i, i < lo.length → lo.getD i 0 < 64 ∧ popN (lo.getD i 0) = k) (hm2 : ∀ i, i < hi.length → hi.getD i 0 < 64 ∧ popN (hi.getD i 0) = k + 1) :
    AC Try.prog 133 [ints (ofN lo), ints (ofN hi)] (.tb 31 3 ((bordM lo hi).map iL)) := by
  refine AC.go (rs := [.tmp 4]) T_ok mixed Try.func133 rfl rfl rfl (by kernel_rfl) fun hl => ?_
  simp (maxSteps := 5000000) -dsimp only [↓gp, gq, reduceCtorEq, Nat.reduceEqDiff, Nat.reduceLT, Nat.reduceLeDiff, Nat.reduceAdd, Nat.reduceMul, Nat.reduceSub, Nat.reduceBEq, Int.reduceToNat, Int.reduceLE, Int.reduceLT, Int.reduceNeg, Nat.reduceMod, sid_ne1, sid_ne2, sid_inj, sid_mod, gT, TK.isInt, TK.agg, Array.toList, ofN_length]
  refine ⟨by omega, by omega, ?_⟩
  refine loop_ini (k := 12) (v := 1) (e := 31) (e2 := 3) (n := lo.length) (by simp (maxSteps := 5000000) -dsimp only [gr, Nat.reduceEqDiff, Nat.reduceLT, Nat.reduceAdd, Nat.reduceMod, Nat.reduceBEq, sid_mod, sid_ne1, sid_ne2, sid_inj, ofN_length]) (fun j => by simp (maxSteps := 5000000) -dsimp only [gr, Nat.reduceEqDiff, Nat.reduceLT, Nat.reduceAdd, Nat.reduceMod, Nat.reduceBEq, sid_mod, sid_ne1, sid_ne2, sid_inj]) (fun (i : Nat) s => s.sl 1 = ints (ofN hi) ∧ s.sl 5 = .own 12 1 ∧ s.sl 13 = ints (ofN lo) ∧ s.sl 14 = int lo.length ∧ s.sl 15 = int i ∧ (i ≤ lo.length ∧ TabP s.rw 12 1 31 3 lo.length i (bordM (lo.take i) hi))) (fun i => lo.length - i) (0) (fun sX htX hslX hoX => (by refine ⟨?_, ?_, ?_, ?_, ?_, ⟨by omega, htX⟩⟩ <;> (first | (simp (maxSteps := 5000000) -dsimp only [gr, Nat.reduceEqDiff, Nat.reduceLT, Nat.reduceAdd, Nat.reduceMod, Nat.reduceBEq, sid_mod, sid_ne1, sid_ne2, sid_inj, hslX, hoX, ofN_length]; first | done | rfl | (simp; done)) | assumption | rfl))) ?_
  intro i sa ⟨h1a, h5a, h13a, h14a, h15a, hIa⟩
  obtain ⟨hi', ht⟩ := hIa
  simp (maxSteps := 5000000) -dsimp only [↓gp, gq, reduceCtorEq, Nat.reduceEqDiff, Nat.reduceLT, Nat.reduceLeDiff, Nat.reduceAdd, Nat.reduceMul, Nat.reduceSub, Nat.reduceBEq, Int.reduceToNat, Int.reduceLE, Int.reduceLT, Int.reduceNeg, Nat.reduceMod, sid_ne1, sid_ne2, sid_inj, sid_mod, gT, TK.isInt, TK.agg, Array.toList, h1a, h5a, h13a, h14a, h15a, ht.top, tabC_length, ofN_length]
  refine ⟨fun h => ?_, fun h => ?_⟩
  · have hge : (ofN lo).getD i 0 = ((lo.getD i 0 : Nat) : Int) := ofN_getD h
    have hlen : (bordM (lo.take i) hi).length = i := by rw [bordM_length, List.length_take]; omega
    refine ⟨h, h, by omega, by omega, h, by omega, ?_⟩
    refine loop_push (k := 12) (v := 1) (e := 31) (e2 := 3) (n := lo.length) (i := i) (d := 24) (vd := (sa.rw 24).ver + 1) (M := bordM (lo.take i) hi) (r := List.replicate hi.length 0) (by simp (maxSteps := 5000000) -dsimp only [gr, Nat.reduceEqDiff, Nat.reduceLT, Nat.reduceAdd, Nat.reduceMod, Nat.reduceBEq, sid_mod, sid_ne1, sid_ne2, sid_inj, ht.top]) hlen (fun j hj => by simp (maxSteps := 5000000) -dsimp only [gr, Nat.reduceEqDiff, Nat.reduceLT, Nat.reduceAdd, Nat.reduceMod, Nat.reduceBEq, sid_mod, sid_ne1, sid_ne2, sid_inj, ht.row j hj]) (fun j hj => by simp (maxSteps := 5000000) -dsimp only [gr, Nat.reduceEqDiff, Nat.reduceLT, Nat.reduceAdd, Nat.reduceMod, Nat.reduceBEq, sid_mod, sid_ne1, sid_ne2, sid_inj, ht.rest j hj]) (by simp (maxSteps := 5000000) -dsimp only [gr, Nat.reduceEqDiff, Nat.reduceLT, Nat.reduceAdd, Nat.reduceMod, Nat.reduceBEq, sid_mod, sid_ne1, sid_ne2, sid_inj]) (by decide) (by decide) h (fun (j : Nat) s => s.sl 1 = ints (ofN hi) ∧ s.sl 5 = .own 12 1 ∧ s.sl 13 = ints (ofN lo) ∧ s.sl 14 = int lo.length ∧ s.sl 15 = int i ∧ s.sl 6 = int i ∧ s.sl 7 = int (lo.getD i 0 : Nat) ∧ s.sl 26 = ints (ofN hi) ∧ s.sl 27 = int hi.length ∧ s.sl 28 = int j ∧ (j ≤ hi.length ∧ TabP s.rw 12 1 31 3 lo.length (i + 1) (bordM (lo.take i) hi ++ [prt (hi.map fun b => sgnN (lo.getD i 0) b) (List.replicate hi.length 0) j]))) (fun j => hi.length - j) (0) (fun sX htX hslX hoX => (by refine ⟨?_, ?_, ?_, ?_, ?_, ?_, ?_, ?_, ?_, ?_, ⟨by omega, by rw [prt_zero]; exact htX⟩⟩ <;> (first | (simp (maxSteps := 5000000) -dsimp only [gr, Nat.reduceEqDiff, Nat.reduceLT, Nat.reduceAdd, Nat.reduceMod, Nat.reduceBEq, sid_mod, sid_ne1, sid_ne2, sid_inj, hslX, hoX, h1a, h5a, h13a, h14a, h15a, ofN_length, hge]; first | done | rfl | (simp; done)) | assumption | rfl))) ?_
    intro j sb ⟨h1b, h5b, h13b, h14b, h15b, h6b, h7b, h26b, h27b, h28b, hIb⟩
    obtain ⟨hj, ht2⟩ := hIb
    have hnl : (hi.map fun b => sgnN (lo.getD i 0) b).length = (List.replicate hi.length (0 : Int)).length := by simp
    have hrr := ht2.row i (by omega)
    rw [snoc_last hlen] at hrr
    have hpl : ∀ t, (prt (hi.map fun b => sgnN (lo.getD i 0) b) (List.replicate hi.length 0) t).length = hi.length := fun t => by rw [prt_length hnl]; simp
    simp (maxSteps := 5000000) -dsimp only [↓gp, gq, reduceCtorEq, Nat.reduceEqDiff, Nat.reduceLT, Nat.reduceLeDiff, Nat.reduceAdd, Nat.reduceMul, Nat.reduceSub, Nat.reduceBEq, Int.reduceToNat, Int.reduceLE, Int.reduceLT, Int.reduceNeg, Nat.reduceMod, sid_ne1, sid_ne2, sid_inj, sid_mod, gT, TK.isInt, TK.agg, Array.toList, h1b, h5b, h13b, h14b, h15b, h6b, h7b, h26b, h27b, h28b, ht2.top, ld_tabC, hrr, hpl, tabC_length, ofN_length]
    refine ⟨fun h2 => ?_, fun h2 => ?_⟩
    · have hge2 : (ofN hi).getD j 0 = ((hi.getD j 0 : Nat) : Int) := ofN_getD h2
      have ha := hm1 i h
      have hb := hm2 j h2
      refine ⟨h2, h2, ?_⟩
      simp (maxSteps := 5000000) -dsimp only [↓gp, gq, reduceCtorEq, Nat.reduceEqDiff, Nat.reduceLT, Nat.reduceLeDiff, Nat.reduceAdd, Nat.reduceMul, Nat.reduceSub, Nat.reduceBEq, Int.reduceToNat, Int.reduceLE, Int.reduceLT, Int.reduceNeg, Nat.reduceMod, sid_ne1, sid_ne2, sid_inj, sid_mod, gT, TK.isInt, TK.agg, Array.toList, h1b, h5b, h13b, h14b, h15b, h6b, h7b, h26b, h27b, h28b, ht2.top, ld_tabC, hrr, hpl, tabC_length, hge2]
      refine ⟨by kernel_rfl, h, h, askK_of (c_impl_borderSign _ _ ha.1 hb.1 (by omega)) ?_⟩
      simp (maxSteps := 5000000) -dsimp only [↓gp, gq, reduceCtorEq, Nat.reduceEqDiff, Nat.reduceLT, Nat.reduceLeDiff, Nat.reduceAdd, Nat.reduceMul, Nat.reduceSub, Nat.reduceBEq, Int.reduceToNat, Int.reduceLE, Int.reduceLT, Int.reduceNeg, Nat.reduceMod, sid_ne1, sid_ne2, sid_inj, sid_mod, gT, TK.isInt, TK.agg, Array.toList, h1b, h5b, h13b, h14b, h15b, h6b, h7b, h26b, h27b, h28b, ht2.top, ld_tabC, hrr, hpl, tabC_length, hge2]
      refine ⟨h2, by omega, by kernel_rfl, again_of (j + 1) ⟨(by (first | (simp (maxSteps := 5000000) -dsimp only [gr, Nat.reduceEqDiff, Nat.reduceLT, Nat.reduceAdd, Nat.reduceMod, Nat.reduceBEq, sid_mod, sid_ne1, sid_ne2, sid_inj, h1b, h5b, h13b, h14b, h15b, h6b, h7b, h26b, h27b, h28b, wrap_nat h2 (by omega)]; first | done | rfl | (simp; done)) | assumption | rfl)), (by (first | (simp (maxSteps := 5000000) -dsimp only [gr, Nat.reduceEqDiff, Nat.reduceLT, Nat.reduceAdd, Nat.reduceMod, Nat.reduceBEq, sid_mod, sid_ne1, sid_ne2, sid_inj, h1b, h5b, h13b, h14b, h15b, h6b, h7b, h26b, h27b, h28b, wrap_nat h2 (by omega)]; first | done | rfl | (simp; done)) | assumption | rfl)), (by (first | (simp (maxSteps := 5000000) -dsimp only [gr, Nat.reduceEqDiff, Nat.reduceLT, Nat.reduceAdd, Nat.reduceMod, Nat.reduceBEq, sid_mod, sid_ne1, sid_ne2, sid_inj, h1b, h5b, h13b, h14b, h15b, h6b, h7b, h26b, h27b, h28b, wrap_nat h2 (by omega)]; first | done | rfl | (simp; done)) | assumption | rfl)), (by (first | (simp (maxSteps := 5000000) -dsimp only [gr, Nat.reduceEqDiff, Nat.reduceLT, Nat.reduceAdd, Nat.reduceMod, Nat.reduceBEq, sid_mod, sid_ne1, sid_ne2, sid_inj, h1b, h5b, h13b, h14b, h15b, h6b, h7b, h26b, h27b, h28b, wrap_nat h2 (by omega)]; first | done | rfl | (simp; done)) | assumption | rfl)), (by (first | (simp (maxSteps := 5000000) -dsimp only [gr, Nat.reduceEqDiff, Nat.reduceLT, Nat.reduceAdd, Nat.reduceMod, Nat.reduceBEq, sid_mod, sid_ne1, sid_ne2, sid_inj, h1b, h5b, h13b, h14b, h15b, h6b, h7b, h26b, h27b, h28b, wrap_nat h2 (by omega)]; first | done | rfl | (simp; done)) | assumption | rfl)), (by (first | (simp (maxSteps := 5000000) -dsimp only [gr, Nat.reduceEqDiff, Nat.reduceLT, Nat.reduceAdd, Nat.reduceMod, Nat.reduceBEq, sid_mod, sid_ne1, sid_ne2, sid_inj, h1b, h5b, h13b, h14b, h15b, h6b, h7b, h26b, h27b, h28b, wrap_nat h2 (by omega)]; first | done | rfl | (simp; done)) | assumption | rfl)), (by (first | (simp (maxSteps := 5000000) -dsimp only [gr, Nat.reduceEqDiff, Nat.reduceLT, Nat.reduceAdd, Nat.reduceMod, Nat.reduceBEq, sid_mod, sid_ne1, sid_ne2, sid_inj, h1b, h5b, h13b, h14b, h15b, h6b, h7b, h26b, h27b, h28b, wrap_nat h2 (by omega)]; first | done | rfl | (simp; done)) | assumption | rfl)), (by (first | (simp (maxSteps := 5000000) -dsimp only [gr, Nat.reduceEqDiff, Nat.reduceLT, Nat.reduceAdd, Nat.reduceMod, Nat.reduceBEq, sid_mod, sid_ne1, sid_ne2, sid_inj, h1b, h5b, h13b, h14b, h15b, h6b, h7b, h26b, h27b, h28b, wrap_nat h2 (by omega)]; first | done | rfl | (simp; done)) | assumption | rfl)), (by (first | (simp (maxSteps := 5000000) -dsimp only [gr, Nat.reduceEqDiff, Nat.reduceLT, Nat.reduceAdd, Nat.reduceMod, Nat.reduceBEq, sid_mod, sid_ne1, sid_ne2, sid_inj, h1b, h5b, h13b, h14b, h15b, h6b, h7b, h26b, h27b, h28b, wrap_nat h2 (by omega)]; first | done | rfl | (simp; done)) | assumption | rfl)), (by (first | (simp (maxSteps := 5000000) -dsimp only [gr, Nat.reduceEqDiff, Nat.reduceLT, Nat.reduceAdd, Nat.reduceMod, Nat.reduceBEq, sid_mod, sid_ne1, sid_ne2, sid_inj, h1b, h5b, h13b, h14b, h15b, h6b, h7b, h26b, h27b, h28b, wrap_nat h2 (by omega)]; first | done | rfl | (simp; done)) | assumption | rfl)), ⟨by omega, ?_⟩⟩ (by first | omega | (simp only; omega) | (dsimp only; omega) | (show _ < _; simp; omega))⟩
      have e : bordM (lo.take i) hi ++ [prt (hi.map fun b => sgnN (lo.getD i 0) b) (List.replicate hi.length 0) (j + 1)] = (bordM (lo.take i) hi ++ [prt (hi.map fun b => sgnN (lo.getD i 0) b) (List.replicate hi.length 0) j]).set i ((prt (hi.map fun b => sgnN (lo.getD i 0) b) (List.replicate hi.length 0) j).set j (sgnN (lo.getD i 0) (hi.getD j 0))) := by
        rw [snoc_set hlen, ← sgn_row h h2, prt_set hnl (by simpa using h2)]
      rw [e]
      exact ht2.set (by omega) (by simp (maxSteps := 5000000) -dsimp only [gr, Nat.reduceEqDiff, Nat.reduceLT, Nat.reduceAdd, Nat.reduceMod, Nat.reduceBEq, sid_mod, sid_ne1, sid_ne2, sid_inj, h1b, h5b, h13b, h14b, h15b, h6b, h7b, h26b, h27b, h28b]) (by simp (maxSteps := 5000000) -dsimp only [gr, Nat.reduceEqDiff, Nat.reduceLT, Nat.reduceAdd, Nat.reduceMod, Nat.reduceBEq, sid_mod, sid_ne1, sid_ne2, sid_inj, h1b, h5b, h13b, h14b, h15b, h6b, h7b, h26b, h27b, h28b]) (fun x hx => by simp (maxSteps := 5000000) -dsimp only [gr, Nat.reduceEqDiff, Nat.reduceLT, Nat.reduceAdd, Nat.reduceMod, Nat.reduceBEq, sid_mod, sid_ne1, sid_ne2, sid_inj, h1b, h5b, h13b, h14b, h15b, h6b, h7b, h26b, h27b, h28b, hx])
    · have : j = hi.length := by omega
      subst this
      refine again_of (i + 1) ⟨(by (first | (simp (maxSteps := 5000000) -dsimp only [gr, Nat.reduceEqDiff, Nat.reduceLT, Nat.reduceAdd, Nat.reduceMod, Nat.reduceBEq, sid_mod, sid_ne1, sid_ne2, sid_inj, h1a, h5a, h13a, h14a, h15a, h1b, h5b, h13b, h14b, h15b, h6b, h7b, h26b, h27b, h28b, wrap_nat h (by omega)]; first | done | rfl | (simp; done)) | assumption | rfl)), (by (first | (simp (maxSteps := 5000000) -dsimp only [gr, Nat.reduceEqDiff, Nat.reduceLT, Nat.reduceAdd, Nat.reduceMod, Nat.reduceBEq, sid_mod, sid_ne1, sid_ne2, sid_inj, h1a, h5a, h13a, h14a, h15a, h1b, h5b, h13b, h14b, h15b, h6b, h7b, h26b, h27b, h28b, wrap_nat h (by omega)]; first | done | rfl | (simp; done)) | assumption | rfl)), (by (first | (simp (maxSteps := 5000000) -dsimp only [gr, Nat.reduceEqDiff, Nat.reduceLT, Nat.reduceAdd, Nat.reduceMod, Nat.reduceBEq, sid_mod, sid_ne1, sid_ne2, sid_inj, h1a, h5a, h13a, h14a, h15a, h1b, h5b, h13b, h14b, h15b, h6b, h7b, h26b, h27b, h28b, wrap_nat h (by omega)]; first | done | rfl | (simp; done)) | assumption | rfl)), (by (first | (simp (maxSteps := 5000000) -dsimp only [gr, Nat.reduceEqDiff, Nat.reduceLT, Nat.reduceAdd, Nat.reduceMod, Nat.reduceBEq, sid_mod, sid_ne1, sid_ne2, sid_inj, h1a, h5a, h13a, h14a, h15a, h1b, h5b, h13b, h14b, h15b, h6b, h7b, h26b, h27b, h28b, wrap_nat h (by omega)]; first | done | rfl | (simp; done)) | assumption | rfl)), (by (first | (simp (maxSteps := 5000000) -dsimp only [gr, Nat.reduceEqDiff, Nat.reduceLT, Nat.reduceAdd, Nat.reduceMod, Nat.reduceBEq, sid_mod, sid_ne1, sid_ne2, sid_inj, h1a, h5a, h13a, h14a, h15a, h1b, h5b, h13b, h14b, h15b, h6b, h7b, h26b, h27b, h28b, wrap_nat h (by omega)]; first | done | rfl | (simp; done)) | assumption | rfl)), ⟨by omega, ?_⟩⟩ (by first | omega | (simp only; omega) | (dsimp only; omega) | (show _ < _; simp; omega))
      have e : prt (hi.map fun b => sgnN (lo.getD i 0) b) (List.replicate hi.length 0) hi.length = hi.map fun b => sgnN (lo.getD i 0) b := by
        have := prt_end hnl
        simpa using this
      have ht3 := ht2
      rw [e, bordM_snoc h] at ht3
      exact ht3.same (by simp (maxSteps := 5000000) -dsimp only [gr, Nat.reduceEqDiff, Nat.reduceLT, Nat.reduceAdd, Nat.reduceMod, Nat.reduceBEq, sid_mod, sid_ne1, sid_ne2, sid_inj]) (fun x => by simp (maxSteps := 5000000) -dsimp only [gr, Nat.reduceEqDiff, Nat.reduceLT, Nat.reduceAdd, Nat.reduceMod, Nat.reduceBEq, sid_mod, sid_ne1, sid_ne2, sid_inj])
  · have : i = lo.length := by omega
    subst this
    rw [List.take_length] at ht
    exact out2_tabI ht.done (by decide) (fun j hj => by have := List.mem_range.1 hj; omega)
end Go.Proofs.Ytnfpeinbdfmlnaa
