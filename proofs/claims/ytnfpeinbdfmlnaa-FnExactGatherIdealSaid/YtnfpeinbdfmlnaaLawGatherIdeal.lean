/- DERIVED by an AI agent. -/
import Derived.Test.YtnfpeinbdfmlnaaQ5
import Derived.Test.YtnfpeinbdfmlnaaQ2
import Derived.Test.YtnfpeinbdfmlnaaP1
namespace Go.Proofs.Ytnfpeinbdfmlnaa
open Go.Abs
set_option linter.unusedSimpArgs false
set_option linter.unusedVariables false

theorem mkV_rows (l : List (List Int)) : ∀ i, sumL (mkV l) i ≤ 3 * i := by
  intro i
  induction i with
  | zero => simp [sumL]
  | succ i ih =>
    rw [sumL]
    have : ((mkV l).getD i []).length ≤ 3 := by
      unfold mkV; split
      · by_cases hi : i < (mkO l 27).length
        · have hm := getD_mem [] hi
          rw [mkO_eq] at hm
          obtain ⟨n, _, hn⟩ := List.mem_map.1 hm
          rw [mkO_eq, ← hn]; exact Nat.le_refl _
        · simp [List.getD, hi]
      · simp
    omega
theorem gatV_len (n : Int) (xs : List Int) : (gatV n xs).length ≤ 27 ∧ sumL (gatV n xs) (gatV n xs).length ≤ 1000 := by
  unfold gatV; split
  · have h1 := mkV_len27 (gatL xs)
    have h2 := mkV_rows (gatL xs) (mkV (gatL xs)).length
    exact ⟨h1, by omega⟩
  · exact ⟨by decide, by decide⟩
theorem c_laws_FnExactGatherIdeal (n : Int) (xs : List Int) : AC Try.prog 7 [.ag [int n, ints xs]] (.im (bool true)) := by
  refine AC.go (rs := [.tmp 2]) T_ok mixed Try.func7 rfl rfl rfl (by kernel_rfl) fun hl => ?_
  simp (maxSteps := 5000000) -dsimp only [↓gp, gq, reduceCtorEq, Nat.reduceEqDiff, Nat.reduceLT, Nat.reduceLeDiff, Nat.reduceAdd, Nat.reduceMul, Nat.reduceSub, Nat.reduceBEq, Int.reduceToNat, Int.reduceLE, Int.reduceLT, Int.reduceNeg, Nat.reduceMod, sid_ne1, sid_ne2, sid_inj, sid_mod, gT, TK.isInt, TK.agg, Array.toList, sameG_refl, dec_self, dec_self2, bne_self_eq_false, beq_self_eq_true, bool_ne_self, dec_true]
  first | refine askK_of (c_laws_szIdeal n xs 1048576 (by decide) (by decide)) ?_ | refine ⟨by kernel_rfl, askK_of (c_laws_szIdeal n xs 1048576 (by decide) (by decide)) ?_⟩
  simp (maxSteps := 5000000) -dsimp only [↓gp, gq, reduceCtorEq, Nat.reduceEqDiff, Nat.reduceLT, Nat.reduceLeDiff, Nat.reduceAdd, Nat.reduceMul, Nat.reduceSub, Nat.reduceBEq, Int.reduceToNat, Int.reduceLE, Int.reduceLT, Int.reduceNeg, Nat.reduceMod, sid_ne1, sid_ne2, sid_inj, sid_mod, gT, TK.isInt, TK.agg, Array.toList, sameG_refl, dec_self, dec_self2, bne_self_eq_false, beq_self_eq_true, bool_ne_self, dec_true]
  intro hs_xs
  obtain ⟨hl0, hl1, hx⟩ := szI_le (n := 1048576) (k := xs.length) (by omega) (by simpa using hs_xs)
  first | refine askK_of (c_laws_toIdeal n xs hx) ?_ | refine ⟨by kernel_rfl, askK_of (c_laws_toIdeal n xs hx) ?_⟩
  simp (maxSteps := 5000000) -dsimp only [↓gp, gq, reduceCtorEq, Nat.reduceEqDiff, Nat.reduceLT, Nat.reduceLeDiff, Nat.reduceAdd, Nat.reduceMul, Nat.reduceSub, Nat.reduceBEq, Int.reduceToNat, Int.reduceLE, Int.reduceLT, Int.reduceNeg, Nat.reduceMod, sid_ne1, sid_ne2, sid_inj, sid_mod, gT, TK.isInt, TK.agg, Array.toList, sameG_refl, dec_self, dec_self2, bne_self_eq_false, beq_self_eq_true, bool_ne_self, dec_true]
  have hS0 := (c_spec_GatherIdeal n xs).flatT
  have hI := c_impl_GatherIdeal n xs
  have hI0 := hI.flatT
  rw [mapT_I] at hS0 hI0
  obtain ⟨hvl, hvs⟩ := gatV_len n xs
  generalize gatV n xs = V at *
  generalize gatB n xs = B at *
  first | refine askK_of (hS0) ?_ | refine ⟨by kernel_rfl, askK_of (hS0) ?_⟩
  simp (maxSteps := 5000000) -dsimp only [↓gp, gq, reduceCtorEq, Nat.reduceEqDiff, Nat.reduceLT, Nat.reduceLeDiff, Nat.reduceAdd, Nat.reduceMul, Nat.reduceSub, Nat.reduceBEq, Int.reduceToNat, Int.reduceLE, Int.reduceLT, Int.reduceNeg, Nat.reduceMod, sid_ne1, sid_ne2, sid_inj, sid_mod, gT, TK.isInt, TK.agg, Array.toList, sameG_refl, dec_self, dec_self2, bne_self_eq_false, beq_self_eq_true, bool_ne_self, dec_true]
  first | refine askK_of (c_laws_toIdeal n xs hx) ?_ | refine ⟨by kernel_rfl, askK_of (c_laws_toIdeal n xs hx) ?_⟩
  simp (maxSteps := 5000000) -dsimp only [↓gp, gq, reduceCtorEq, Nat.reduceEqDiff, Nat.reduceLT, Nat.reduceLeDiff, Nat.reduceAdd, Nat.reduceMul, Nat.reduceSub, Nat.reduceBEq, Int.reduceToNat, Int.reduceLE, Int.reduceLT, Int.reduceNeg, Nat.reduceMod, sid_ne1, sid_ne2, sid_inj, sid_mod, gT, TK.isInt, TK.agg, Array.toList, sameG_refl, dec_self, dec_self2, bne_self_eq_false, beq_self_eq_true, bool_ne_self, dec_true]
  refine askTabB_of (d := 29) hI (fun i _ => by simp (maxSteps := 5000000) -dsimp only [gr, Nat.reduceEqDiff, Nat.reduceLT, Nat.reduceAdd, Nat.reduceMod, Nat.reduceBEq, sid_mod, sid_ne1, sid_ne2, sid_inj]) fun S hS hSd hSs hSr => ?_
  have hS : TabI S.rw 29 1 31 3 (List.range V.length) V := hS
  have hSd : S.sl 29 = .tup [.ag [.own 29 1], .v (.bool B)] := hSd
  have us1 : S.sl 1 = .ref 1 1 0 := by rw [hSs 1 (by decide)]; simp (maxSteps := 5000000) -dsimp only [gr, Nat.reduceEqDiff, Nat.reduceLT, Nat.reduceAdd, Nat.reduceMod, Nat.reduceBEq, sid_mod, sid_ne1, sid_ne2, sid_inj]
  have ur1 : S.rw 1 = ⟨1, .box 48 [int n, ints xs]⟩ := by rw [hSr 1 (by decide)]; simp (maxSteps := 5000000) -dsimp only [gr, Nat.reduceEqDiff, Nat.reduceLT, Nat.reduceAdd, Nat.reduceMod, Nat.reduceBEq, sid_mod, sid_ne1, sid_ne2, sid_inj]
  have us4 : S.sl 4 = .ref 4 1 0 := by rw [hSs 4 (by decide)]; simp (maxSteps := 5000000) -dsimp only [gr, Nat.reduceEqDiff, Nat.reduceLT, Nat.reduceAdd, Nat.reduceMod, Nat.reduceBEq, sid_mod, sid_ne1, sid_ne2, sid_inj]
  have us5 : S.sl 5 = bool B := by rw [hSs 5 (by decide)]; simp (maxSteps := 5000000) -dsimp only [gr, Nat.reduceEqDiff, Nat.reduceLT, Nat.reduceAdd, Nat.reduceMod, Nat.reduceBEq, sid_mod, sid_ne1, sid_ne2, sid_inj]
  have ur4 : S.rw 4 = ⟨1, .box 27 [.own 22 1]⟩ := by rw [hSr 4 (by decide)]; simp (maxSteps := 5000000) -dsimp only [gr, Nat.reduceEqDiff, Nat.reduceLT, Nat.reduceAdd, Nat.reduceMod, Nat.reduceBEq, sid_mod, sid_ne1, sid_ne2, sid_inj]
  have ur22 : S.rw 22 = ⟨1, .sli 31 1 false (iLL V)⟩ := by rw [hSr 22 (by decide)]; simp (maxSteps := 5000000) -dsimp only [gr, Nat.reduceEqDiff, Nat.reduceLT, Nat.reduceAdd, Nat.reduceMod, Nat.reduceBEq, sid_mod, sid_ne1, sid_ne2, sid_inj]
  have us6 : S.sl 6 = .ref 6 1 0 := by rw [hSs 6 (by decide)]; simp (maxSteps := 5000000) -dsimp only [gr, Nat.reduceEqDiff, Nat.reduceLT, Nat.reduceAdd, Nat.reduceMod, Nat.reduceBEq, sid_mod, sid_ne1, sid_ne2, sid_inj]
  have ur6 : S.rw 6 = ⟨1, .box 43 [int n, .own 26 1]⟩ := by rw [hSr 6 (by decide)]; simp (maxSteps := 5000000) -dsimp only [gr, Nat.reduceEqDiff, Nat.reduceLT, Nat.reduceAdd, Nat.reduceMod, Nat.reduceBEq, sid_mod, sid_ne1, sid_ne2, sid_inj]
  have ur26 : S.rw 26 = ⟨1, .sli 3 1 false (iL xs)⟩ := by rw [hSr 26 (by decide)]; simp (maxSteps := 5000000) -dsimp only [gr, Nat.reduceEqDiff, Nat.reduceLT, Nat.reduceAdd, Nat.reduceMod, Nat.reduceBEq, sid_mod, sid_ne1, sid_ne2, sid_inj]
  have ur7 : S.rw 7 = ⟨0, .dead⟩ := by rw [hSr 7 (by decide)]; simp (maxSteps := 5000000) -dsimp only [gr, Nat.reduceEqDiff, Nat.reduceLT, Nat.reduceAdd, Nat.reduceMod, Nat.reduceBEq, sid_mod, sid_ne1, sid_ne2, sid_inj]
  have hln := lend_tabI hS
  have htop := hS.top
  clear hSs hSr
  simp (maxSteps := 5000000) -dsimp only [↓gp, gq, reduceCtorEq, Nat.reduceEqDiff, Nat.reduceLT, Nat.reduceLeDiff, Nat.reduceAdd, Nat.reduceMul, Nat.reduceSub, Nat.reduceBEq, Int.reduceToNat, Int.reduceLE, Int.reduceLT, Int.reduceNeg, Nat.reduceMod, sid_ne1, sid_ne2, sid_inj, sid_mod, gT, TK.isInt, TK.agg, Array.toList, sameG_refl, dec_self, dec_self2, bne_self_eq_false, beq_self_eq_true, bool_ne_self, dec_true, hSd, us1, ur1, us4, us5, ur4, ur22, us6, ur6, ur26, ur7, hln, htop]
  rw [hln]
  rotate_left
  · intro j; simp (maxSteps := 5000000) -dsimp only [gr, Nat.reduceEqDiff, Nat.reduceLT, Nat.reduceAdd, Nat.reduceMod, Nat.reduceBEq, sid_mod, sid_ne1, sid_ne2, sid_inj]
  first | refine askK_of (c_laws_eqPowers V V) ?_ | refine ⟨by kernel_rfl, askK_of (c_laws_eqPowers V V) ?_⟩
  simp (maxSteps := 5000000) -dsimp only [↓gp, gq, reduceCtorEq, Nat.reduceEqDiff, Nat.reduceLT, Nat.reduceLeDiff, Nat.reduceAdd, Nat.reduceMul, Nat.reduceSub, Nat.reduceBEq, Int.reduceToNat, Int.reduceLE, Int.reduceLT, Int.reduceNeg, Nat.reduceMod, sid_ne1, sid_ne2, sid_inj, sid_mod, gT, TK.isInt, TK.agg, Array.toList, sameG_refl, dec_self, dec_self2, bne_self_eq_false, beq_self_eq_true, bool_ne_self, dec_true, hSd, us1, ur1, us4, us5, ur4, ur22, us6, ur6, ur26, ur7, hln, htop]
  first | refine askK_of (c_laws_toIdeal n xs hx) ?_ | refine ⟨by kernel_rfl, askK_of (c_laws_toIdeal n xs hx) ?_⟩
  simp (maxSteps := 5000000) -dsimp only [↓gp, gq, reduceCtorEq, Nat.reduceEqDiff, Nat.reduceLT, Nat.reduceLeDiff, Nat.reduceAdd, Nat.reduceMul, Nat.reduceSub, Nat.reduceBEq, Int.reduceToNat, Int.reduceLE, Int.reduceLT, Int.reduceNeg, Nat.reduceMod, sid_ne1, sid_ne2, sid_inj, sid_mod, gT, TK.isInt, TK.agg, Array.toList, sameG_refl, dec_self, dec_self2, bne_self_eq_false, beq_self_eq_true, bool_ne_self, dec_true, hSd, us1, ur1, us4, us5, ur4, ur22, us6, ur6, ur26, ur7, hln, htop]
  first | refine askK_of (c_laws_eqIdeal _ _ _ _) ?_ | refine ⟨by kernel_rfl, askK_of (c_laws_eqIdeal _ _ _ _) ?_⟩
  simp (maxSteps := 5000000) -dsimp only [↓gp, gq, reduceCtorEq, Nat.reduceEqDiff, Nat.reduceLT, Nat.reduceLeDiff, Nat.reduceAdd, Nat.reduceMul, Nat.reduceSub, Nat.reduceBEq, Int.reduceToNat, Int.reduceLE, Int.reduceLT, Int.reduceNeg, Nat.reduceMod, sid_ne1, sid_ne2, sid_inj, sid_mod, gT, TK.isInt, TK.agg, Array.toList, sameG_refl, dec_self, dec_self2, bne_self_eq_false, beq_self_eq_true, bool_ne_self, dec_true, hSd, us1, ur1, us4, us5, ur4, ur22, us6, ur6, ur26, ur7, hln, htop]
  have hk1 : decide (1 + (xs.length : Int) < 0) = false := decide_eq_false (by omega)
  refine ⟨by kernel_rfl, askM_of (c_laws_markIdeal n xs 1 (by omega) (by decide) (by decide)) [(26, 1)] (by repeat (first | exact GiveL.nil | refine GiveL.v ?_ | refine GiveL.own 0 rfl ?_ | refine GiveL.own 1 rfl ?_ | refine GiveL.ag ?_ ?_)) ⟨by simp (maxSteps := 5000000) -dsimp only [gr, Nat.reduceEqDiff, Nat.reduceLT, Nat.reduceAdd, Nat.reduceMod, Nat.reduceBEq, sid_mod, sid_ne1, sid_ne2, sid_inj, ur26], trivial⟩ (by decide) ?_⟩
  simp (maxSteps := 5000000) -dsimp only [↓gp, gq, reduceCtorEq, Nat.reduceEqDiff, Nat.reduceLT, Nat.reduceLeDiff, Nat.reduceAdd, Nat.reduceMul, Nat.reduceSub, Nat.reduceBEq, Int.reduceToNat, Int.reduceLE, Int.reduceLT, Int.reduceNeg, Nat.reduceMod, sid_ne1, sid_ne2, sid_inj, sid_mod, gT, TK.isInt, TK.agg, Array.toList, sameG_refl, dec_self, dec_self2, bne_self_eq_false, beq_self_eq_true, bool_ne_self, dec_true, hSd, us1, ur1, us4, us5, ur4, ur22, us6, ur6, ur26, ur7, hln, htop, hk1]
  rw [hln]
  rotate_left
  · intro j; simp (maxSteps := 5000000) -dsimp only [gr, Nat.reduceEqDiff, Nat.reduceLT, Nat.reduceAdd, Nat.reduceMod, Nat.reduceBEq, sid_mod, sid_ne1, sid_ne2, sid_inj]
  first | refine askK_of (c_laws_eqPowers V V) ?_ | refine ⟨by kernel_rfl, askK_of (c_laws_eqPowers V V) ?_⟩
  simp (maxSteps := 5000000) -dsimp only [↓gp, gq, reduceCtorEq, Nat.reduceEqDiff, Nat.reduceLT, Nat.reduceLeDiff, Nat.reduceAdd, Nat.reduceMul, Nat.reduceSub, Nat.reduceBEq, Int.reduceToNat, Int.reduceLE, Int.reduceLT, Int.reduceNeg, Nat.reduceMod, sid_ne1, sid_ne2, sid_inj, sid_mod, gT, TK.isInt, TK.agg, Array.toList, sameG_refl, dec_self, dec_self2, bne_self_eq_false, beq_self_eq_true, bool_ne_self, dec_true, hSd, us1, ur1, us4, us5, ur4, ur22, us6, ur6, ur26, ur7, hln, htop, hk1]
  refine askTabM_of (c_laws_markPowers V (by omega) (by omega)) (by repeat (first | exact GiveL.nil | refine GiveL.v ?_ | refine GiveL.own 0 rfl ?_ | refine GiveL.own 1 rfl ?_ | refine GiveL.ag ?_ ?_)) (hS.same (by simp (maxSteps := 5000000) -dsimp only [gr, Nat.reduceEqDiff, Nat.reduceLT, Nat.reduceAdd, Nat.reduceMod, Nat.reduceBEq, sid_mod, sid_ne1, sid_ne2, sid_inj]) (fun j => by simp (maxSteps := 5000000) -dsimp only [gr, Nat.reduceEqDiff, Nat.reduceLT, Nat.reduceAdd, Nat.reduceMod, Nat.reduceBEq, sid_mod, sid_ne1, sid_ne2, sid_inj])) (mixM_length 1 V V.length) (by decide) fun S4 q4 hS4 hql4 hS4d hs4 hr4 => ?_
  have zs1 : S4.sl 1 = .ref 1 1 0 := by rw [hs4 1 (by decide)]; simp (maxSteps := 5000000) -dsimp only [gr, Nat.reduceEqDiff, Nat.reduceLT, Nat.reduceAdd, Nat.reduceMod, Nat.reduceBEq, sid_mod, sid_ne1, sid_ne2, sid_inj, us1, ur1, us4, us5, ur4, ur22, us6, ur6, ur26, ur7]
  have zr1 : S4.rw 1 = ⟨1, .box 48 [int n, ints xs]⟩ := by rw [hr4 1 (by decide)]; simp (maxSteps := 5000000) -dsimp only [gr, Nat.reduceEqDiff, Nat.reduceLT, Nat.reduceAdd, Nat.reduceMod, Nat.reduceBEq, sid_mod, sid_ne1, sid_ne2, sid_inj, us1, ur1, us4, us5, ur4, ur22, us6, ur6, ur26, ur7]
  have zs4 : S4.sl 4 = .ref 4 1 0 := by rw [hs4 4 (by decide)]; simp (maxSteps := 5000000) -dsimp only [gr, Nat.reduceEqDiff, Nat.reduceLT, Nat.reduceAdd, Nat.reduceMod, Nat.reduceBEq, sid_mod, sid_ne1, sid_ne2, sid_inj, us1, ur1, us4, us5, ur4, ur22, us6, ur6, ur26, ur7]
  have zs5 : S4.sl 5 = bool B := by rw [hs4 5 (by decide)]; simp (maxSteps := 5000000) -dsimp only [gr, Nat.reduceEqDiff, Nat.reduceLT, Nat.reduceAdd, Nat.reduceMod, Nat.reduceBEq, sid_mod, sid_ne1, sid_ne2, sid_inj, us1, ur1, us4, us5, ur4, ur22, us6, ur6, ur26, ur7]
  have zr4 : S4.rw 4 = ⟨1, .box 27 [.own 22 1]⟩ := by rw [hr4 4 (by decide)]; simp (maxSteps := 5000000) -dsimp only [gr, Nat.reduceEqDiff, Nat.reduceLT, Nat.reduceAdd, Nat.reduceMod, Nat.reduceBEq, sid_mod, sid_ne1, sid_ne2, sid_inj, us1, ur1, us4, us5, ur4, ur22, us6, ur6, ur26, ur7]
  have zr22 : S4.rw 22 = ⟨1, .sli 31 1 false (iLL V)⟩ := by rw [hr4 22 (by decide)]; simp (maxSteps := 5000000) -dsimp only [gr, Nat.reduceEqDiff, Nat.reduceLT, Nat.reduceAdd, Nat.reduceMod, Nat.reduceBEq, sid_mod, sid_ne1, sid_ne2, sid_inj, us1, ur1, us4, us5, ur4, ur22, us6, ur6, ur26, ur7]
  have zs7 : S4.sl 7 = .ref 7 1 0 := by rw [hs4 7 (by decide)]; simp (maxSteps := 5000000) -dsimp only [gr, Nat.reduceEqDiff, Nat.reduceLT, Nat.reduceAdd, Nat.reduceMod, Nat.reduceBEq, sid_mod, sid_ne1, sid_ne2, sid_inj, us1, ur1, us4, us5, ur4, ur22, us6, ur6, ur26, ur7]
  have zs8 : S4.sl 8 = bool B := by rw [hs4 8 (by decide)]; simp (maxSteps := 5000000) -dsimp only [gr, Nat.reduceEqDiff, Nat.reduceLT, Nat.reduceAdd, Nat.reduceMod, Nat.reduceBEq, sid_mod, sid_ne1, sid_ne2, sid_inj, us1, ur1, us4, us5, ur4, ur22, us6, ur6, ur26, ur7]
  have zr7 : S4.rw 7 = ⟨1, .box 27 [.own 29 1]⟩ := by rw [hr4 7 (by decide)]; simp (maxSteps := 5000000) -dsimp only [gr, Nat.reduceEqDiff, Nat.reduceLT, Nat.reduceAdd, Nat.reduceMod, Nat.reduceBEq, sid_mod, sid_ne1, sid_ne2, sid_inj, us1, ur1, us4, us5, ur4, ur22, us6, ur6, ur26, ur7]
  have hln4 := lend_tabI hS4
  have ht4 := hS4.top
  clear hs4 hr4
  have hk2 : decide (1 + (sumL V V.length : Int) < 0) = false := decide_eq_false (by omega)
  simp (maxSteps := 5000000) -dsimp only [↓gp, gq, reduceCtorEq, Nat.reduceEqDiff, Nat.reduceLT, Nat.reduceLeDiff, Nat.reduceAdd, Nat.reduceMul, Nat.reduceSub, Nat.reduceBEq, Int.reduceToNat, Int.reduceLE, Int.reduceLT, Int.reduceNeg, Nat.reduceMod, sid_ne1, sid_ne2, sid_inj, sid_mod, gT, TK.isInt, TK.agg, Array.toList, sameG_refl, dec_self, dec_self2, bne_self_eq_false, beq_self_eq_true, bool_ne_self, dec_true, hS4d, zs1, zr1, zs4, zs5, zr4, zr22, zs7, zs8, zr7, hln4, ht4, hk1, hk2]
  first | refine askK_of (c_laws_heldPowers V (by omega) (by omega)) ?_ | refine ⟨by kernel_rfl, askK_of (c_laws_heldPowers V (by omega) (by omega)) ?_⟩
  simp (maxSteps := 5000000) -dsimp only [↓gp, gq, reduceCtorEq, Nat.reduceEqDiff, Nat.reduceLT, Nat.reduceLeDiff, Nat.reduceAdd, Nat.reduceMul, Nat.reduceSub, Nat.reduceBEq, Int.reduceToNat, Int.reduceLE, Int.reduceLT, Int.reduceNeg, Nat.reduceMod, sid_ne1, sid_ne2, sid_inj, sid_mod, gT, TK.isInt, TK.agg, Array.toList, sameG_refl, dec_self, dec_self2, bne_self_eq_false, beq_self_eq_true, bool_ne_self, dec_true, hS4d, zs1, zr1, zs4, zs5, zr4, zr22, zs7, zs8, zr7, hln4, ht4, hk1, hk2]
  first | refine askK_of (c_laws_toIdeal n xs hx) ?_ | refine ⟨by kernel_rfl, askK_of (c_laws_toIdeal n xs hx) ?_⟩
  simp (maxSteps := 5000000) -dsimp only [↓gp, gq, reduceCtorEq, Nat.reduceEqDiff, Nat.reduceLT, Nat.reduceLeDiff, Nat.reduceAdd, Nat.reduceMul, Nat.reduceSub, Nat.reduceBEq, Int.reduceToNat, Int.reduceLE, Int.reduceLT, Int.reduceNeg, Nat.reduceMod, sid_ne1, sid_ne2, sid_inj, sid_mod, gT, TK.isInt, TK.agg, Array.toList, sameG_refl, dec_self, dec_self2, bne_self_eq_false, beq_self_eq_true, bool_ne_self, dec_true, hS4d, zs1, zr1, zs4, zs5, zr4, zr22, zs7, zs8, zr7, hln4, ht4, hk1, hk2]
  first | refine askK_of (hI0) ?_ | refine ⟨by kernel_rfl, askK_of (hI0) ?_⟩
  simp (maxSteps := 5000000) -dsimp only [↓gp, gq, reduceCtorEq, Nat.reduceEqDiff, Nat.reduceLT, Nat.reduceLeDiff, Nat.reduceAdd, Nat.reduceMul, Nat.reduceSub, Nat.reduceBEq, Int.reduceToNat, Int.reduceLE, Int.reduceLT, Int.reduceNeg, Nat.reduceMod, sid_ne1, sid_ne2, sid_inj, sid_mod, gT, TK.isInt, TK.agg, Array.toList, sameG_refl, dec_self, dec_self2, bne_self_eq_false, beq_self_eq_true, bool_ne_self, dec_true, hS4d, zs1, zr1, zs4, zs5, zr4, zr22, zs7, zs8, zr7, hln4, ht4, hk1, hk2]
  first | refine askK_of (c_laws_eqPowers V V) ?_ | refine ⟨by kernel_rfl, askK_of (c_laws_eqPowers V V) ?_⟩
  simp (maxSteps := 5000000) -dsimp only [↓gp, gq, reduceCtorEq, Nat.reduceEqDiff, Nat.reduceLT, Nat.reduceLeDiff, Nat.reduceAdd, Nat.reduceMul, Nat.reduceSub, Nat.reduceBEq, Int.reduceToNat, Int.reduceLE, Int.reduceLT, Int.reduceNeg, Nat.reduceMod, sid_ne1, sid_ne2, sid_inj, sid_mod, gT, TK.isInt, TK.agg, Array.toList, sameG_refl, dec_self, dec_self2, bne_self_eq_false, beq_self_eq_true, bool_ne_self, dec_true, hS4d, zs1, zr1, zs4, zs5, zr4, zr22, zs7, zs8, zr7, hln4, ht4, hk1, hk2]
  rw [hln4]
  rotate_left
  · intro j; simp (maxSteps := 5000000) -dsimp only [gr, Nat.reduceEqDiff, Nat.reduceLT, Nat.reduceAdd, Nat.reduceMod, Nat.reduceBEq, sid_mod, sid_ne1, sid_ne2, sid_inj]
  first | refine askK_of (c_laws_heldPowers V (by omega) (by omega)) ?_ | refine ⟨by kernel_rfl, askK_of (c_laws_heldPowers V (by omega) (by omega)) ?_⟩
  simp (maxSteps := 5000000) -dsimp only [↓gp, gq, reduceCtorEq, Nat.reduceEqDiff, Nat.reduceLT, Nat.reduceLeDiff, Nat.reduceAdd, Nat.reduceMul, Nat.reduceSub, Nat.reduceBEq, Int.reduceToNat, Int.reduceLE, Int.reduceLT, Int.reduceNeg, Nat.reduceMod, sid_ne1, sid_ne2, sid_inj, sid_mod, gT, TK.isInt, TK.agg, Array.toList, sameG_refl, dec_self, dec_self2, bne_self_eq_false, beq_self_eq_true, bool_ne_self, dec_true, hS4d, zs1, zr1, zs4, zs5, zr4, zr22, zs7, zs8, zr7, hln4, ht4, hk1, hk2]
  all_goals first | done | exact (by kernel_rfl) | exact ⟨by kernel_rfl, trivial⟩ | trivial
end Go.Proofs.Ytnfpeinbdfmlnaa
