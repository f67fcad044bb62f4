/- DERIVED by an AI agent. -/
import Derived.Test.YtnfpeinbdfmlnaaQ4
import Derived.Test.YtnfpeinbdfmlnaaQ3
import Derived.Test.YtnfpeinbdfmlnaaP1
namespace Go.Proofs.Ytnfpeinbdfmlnaa
open Go.Abs
set_option linter.unusedSimpArgs false
set_option linter.unusedVariables false

theorem spV_len (x : List (List Int)) : (ofN (spV x)).length ≤ 1048576 := by
  rw [ofN_length]; unfold spV; split
  · exact Nat.le_trans (List.length_filter_le _ _) (Nat.le_trans (ordN_len _) (by decide))
  · decide
theorem c_laws_FnExactSpreadPowers (x : List (List Int)) : AC Try.prog 6 [.ag [int2 x]] (.im (bool true)) := by
  refine AC.go (rs := [.tmp 2]) T_ok mixed Try.func6 rfl rfl rfl (by kernel_rfl) fun hl => ?_
  simp (maxSteps := 5000000) -dsimp only [↓gp, gq, reduceCtorEq, Nat.reduceEqDiff, Nat.reduceLT, Nat.reduceLeDiff, Nat.reduceAdd, Nat.reduceMul, Nat.reduceSub, Nat.reduceBEq, Int.reduceToNat, Int.reduceLE, Int.reduceLT, Int.reduceNeg, Nat.reduceMod, sid_ne1, sid_ne2, sid_inj, sid_mod, gT, TK.isInt, TK.agg, Array.toList, sameG_refl, dec_self, dec_self2, bne_self_eq_false, beq_self_eq_true, bool_ne_self, dec_true]
  first | refine askK_of (c_laws_szPowers x 1048576 (by decide) (by decide)) ?_ | refine ⟨by kernel_rfl, askK_of (c_laws_szPowers x 1048576 (by decide) (by decide)) ?_⟩
  simp (maxSteps := 5000000) -dsimp only [↓gp, gq, reduceCtorEq, Nat.reduceEqDiff, Nat.reduceLT, Nat.reduceLeDiff, Nat.reduceAdd, Nat.reduceMul, Nat.reduceSub, Nat.reduceBEq, Int.reduceToNat, Int.reduceLE, Int.reduceLT, Int.reduceNeg, Nat.reduceMod, sid_ne1, sid_ne2, sid_inj, sid_mod, gT, TK.isInt, TK.agg, Array.toList, sameG_refl, dec_self, dec_self2, bne_self_eq_false, beq_self_eq_true, bool_ne_self, dec_true]
  intro hs_x
  have hx : x.length ≤ 1048576 ∧ ∀ r ∈ x, r.length ≤ 1048576 := szSS_le hs_x
  have hsum := szSS_sum hs_x
  first | refine askK_of (c_laws_toPowers x (c_laws_toIntSS x hx.1 hx.2)) ?_ | refine ⟨by kernel_rfl, askK_of (c_laws_toPowers x (c_laws_toIntSS x hx.1 hx.2)) ?_⟩
  simp (maxSteps := 5000000) -dsimp only [↓gp, gq, reduceCtorEq, Nat.reduceEqDiff, Nat.reduceLT, Nat.reduceLeDiff, Nat.reduceAdd, Nat.reduceMul, Nat.reduceSub, Nat.reduceBEq, Int.reduceToNat, Int.reduceLE, Int.reduceLT, Int.reduceNeg, Nat.reduceMod, sid_ne1, sid_ne2, sid_inj, sid_mod, gT, TK.isInt, TK.agg, Array.toList, sameG_refl, dec_self, dec_self2, bne_self_eq_false, beq_self_eq_true, bool_ne_self, dec_true]
  have hS0 := c_spec_SpreadPowers x
  have hI := c_impl_SpreadPowers x
  have hb := spV_len x
  generalize ofN (spV x) = V at *
  generalize spO x = O at *
  generalize p19 x = B at *
  first | refine askK_of (hS0) ?_ | refine ⟨by kernel_rfl, askK_of (hS0) ?_⟩
  simp (maxSteps := 5000000) -dsimp only [↓gp, gq, reduceCtorEq, Nat.reduceEqDiff, Nat.reduceLT, Nat.reduceLeDiff, Nat.reduceAdd, Nat.reduceMul, Nat.reduceSub, Nat.reduceBEq, Int.reduceToNat, Int.reduceLE, Int.reduceLT, Int.reduceNeg, Nat.reduceMod, sid_ne1, sid_ne2, sid_inj, sid_mod, gT, TK.isInt, TK.agg, Array.toList, sameG_refl, dec_self, dec_self2, bne_self_eq_false, beq_self_eq_true, bool_ne_self, dec_true]
  refine askNew_of (d := 26) (c_laws_toPowersN x hx.1 hx.2) (.inr rfl) (.ag (.one (.sl _ _ _) .nil) .nil) (fun i _ => by simp (maxSteps := 5000000) -dsimp only [gr, Nat.reduceEqDiff, Nat.reduceLT, Nat.reduceAdd, Nat.reduceMod, Nat.reduceBEq, sid_mod, sid_ne1, sid_ne2, sid_inj]) fun S hS0 hSd0 hSs hSr => ?_
  have hS : TabI S.rw 26 1 31 3 (List.range x.length) x := hS0
  have hSd : S.sl 26 = .ag [.own 26 1] := hSd0
  have us1 : S.sl 1 = .ref 1 1 0 := by rw [hSs 1 (by decide)]; simp (maxSteps := 5000000) -dsimp only [gr, Nat.reduceEqDiff, Nat.reduceLT, Nat.reduceAdd, Nat.reduceMod, Nat.reduceBEq, sid_mod, sid_ne1, sid_ne2, sid_inj]
  have ur1 : S.rw 1 = ⟨1, .box 24 [int2 x]⟩ := by rw [hSr 1 (by decide)]; simp (maxSteps := 5000000) -dsimp only [gr, Nat.reduceEqDiff, Nat.reduceLT, Nat.reduceAdd, Nat.reduceMod, Nat.reduceBEq, sid_mod, sid_ne1, sid_ne2, sid_inj]
  have us4 : S.sl 4 = .ref 4 1 0 := by rw [hSs 4 (by decide)]; simp (maxSteps := 5000000) -dsimp only [gr, Nat.reduceEqDiff, Nat.reduceLT, Nat.reduceAdd, Nat.reduceMod, Nat.reduceBEq, sid_mod, sid_ne1, sid_ne2, sid_inj]
  have us5 : S.sl 5 = bool B := by rw [hSs 5 (by decide)]; simp (maxSteps := 5000000) -dsimp only [gr, Nat.reduceEqDiff, Nat.reduceLT, Nat.reduceAdd, Nat.reduceMod, Nat.reduceBEq, sid_mod, sid_ne1, sid_ne2, sid_inj]
  have ur4 : S.rw 4 = ⟨1, .box 43 [int O, .own 22 1]⟩ := by rw [hSr 4 (by decide)]; simp (maxSteps := 5000000) -dsimp only [gr, Nat.reduceEqDiff, Nat.reduceLT, Nat.reduceAdd, Nat.reduceMod, Nat.reduceBEq, sid_mod, sid_ne1, sid_ne2, sid_inj]
  have ur22 : S.rw 22 = ⟨1, .sli 3 1 false (iL V)⟩ := by rw [hSr 22 (by decide)]; simp (maxSteps := 5000000) -dsimp only [gr, Nat.reduceEqDiff, Nat.reduceLT, Nat.reduceAdd, Nat.reduceMod, Nat.reduceBEq, sid_mod, sid_ne1, sid_ne2, sid_inj]
  have ur6 : S.rw 6 = ⟨0, .dead⟩ := by rw [hSr 6 (by decide)]; simp (maxSteps := 5000000) -dsimp only [gr, Nat.reduceEqDiff, Nat.reduceLT, Nat.reduceAdd, Nat.reduceMod, Nat.reduceBEq, sid_mod, sid_ne1, sid_ne2, sid_inj]
  have ur7 : S.rw 7 = ⟨0, .dead⟩ := by rw [hSr 7 (by decide)]; simp (maxSteps := 5000000) -dsimp only [gr, Nat.reduceEqDiff, Nat.reduceLT, Nat.reduceAdd, Nat.reduceMod, Nat.reduceBEq, sid_mod, sid_ne1, sid_ne2, sid_inj]
  have ur29 : S.rw 29 = ⟨0, .dead⟩ := by rw [hSr 29 (by decide)]; simp (maxSteps := 5000000) -dsimp only [gr, Nat.reduceEqDiff, Nat.reduceLT, Nat.reduceAdd, Nat.reduceMod, Nat.reduceBEq, sid_mod, sid_ne1, sid_ne2, sid_inj]
  have hln := lend_tabI hS
  have htop := hS.top
  clear hSs hSr hS0 hSd0
  simp (maxSteps := 5000000) -dsimp only [↓gp, gq, reduceCtorEq, Nat.reduceEqDiff, Nat.reduceLT, Nat.reduceLeDiff, Nat.reduceAdd, Nat.reduceMul, Nat.reduceSub, Nat.reduceBEq, Int.reduceToNat, Int.reduceLE, Int.reduceLT, Int.reduceNeg, Nat.reduceMod, sid_ne1, sid_ne2, sid_inj, sid_mod, gT, TK.isInt, TK.agg, Array.toList, sameG_refl, dec_self, dec_self2, bne_self_eq_false, beq_self_eq_true, bool_ne_self, dec_true, hSd, us1, ur1, us4, us5, ur4, ur22, ur6, ur7, ur29, hln, htop]
  rw [hln]
  rotate_left
  · intro j; simp (maxSteps := 5000000) -dsimp only [gr, Nat.reduceEqDiff, Nat.reduceLT, Nat.reduceAdd, Nat.reduceMod, Nat.reduceBEq, sid_mod, sid_ne1, sid_ne2, sid_inj]
  first | refine askK_of (hI) ?_ | refine ⟨by kernel_rfl, askK_of (hI) ?_⟩
  simp (maxSteps := 5000000) -dsimp only [↓gp, gq, reduceCtorEq, Nat.reduceEqDiff, Nat.reduceLT, Nat.reduceLeDiff, Nat.reduceAdd, Nat.reduceMul, Nat.reduceSub, Nat.reduceBEq, Int.reduceToNat, Int.reduceLE, Int.reduceLT, Int.reduceNeg, Nat.reduceMod, sid_ne1, sid_ne2, sid_inj, sid_mod, gT, TK.isInt, TK.agg, Array.toList, sameG_refl, dec_self, dec_self2, bne_self_eq_false, beq_self_eq_true, bool_ne_self, dec_true, hSd, us1, ur1, us4, us5, ur4, ur22, ur6, ur7, ur29, hln, htop]
  first | refine askK_of (c_laws_eqIdeal _ _ _ _) ?_ | refine ⟨by kernel_rfl, askK_of (c_laws_eqIdeal _ _ _ _) ?_⟩
  simp (maxSteps := 5000000) -dsimp only [↓gp, gq, reduceCtorEq, Nat.reduceEqDiff, Nat.reduceLT, Nat.reduceLeDiff, Nat.reduceAdd, Nat.reduceMul, Nat.reduceSub, Nat.reduceBEq, Int.reduceToNat, Int.reduceLE, Int.reduceLT, Int.reduceNeg, Nat.reduceMod, sid_ne1, sid_ne2, sid_inj, sid_mod, gT, TK.isInt, TK.agg, Array.toList, sameG_refl, dec_self, dec_self2, bne_self_eq_false, beq_self_eq_true, bool_ne_self, dec_true, hSd, us1, ur1, us4, us5, ur4, ur22, ur6, ur7, ur29, hln, htop]
  first | refine askK_of (c_laws_toPowers x (c_laws_toIntSS x hx.1 hx.2)) ?_ | refine ⟨by kernel_rfl, askK_of (c_laws_toPowers x (c_laws_toIntSS x hx.1 hx.2)) ?_⟩
  simp (maxSteps := 5000000) -dsimp only [↓gp, gq, reduceCtorEq, Nat.reduceEqDiff, Nat.reduceLT, Nat.reduceLeDiff, Nat.reduceAdd, Nat.reduceMul, Nat.reduceSub, Nat.reduceBEq, Int.reduceToNat, Int.reduceLE, Int.reduceLT, Int.reduceNeg, Nat.reduceMod, sid_ne1, sid_ne2, sid_inj, sid_mod, gT, TK.isInt, TK.agg, Array.toList, sameG_refl, dec_self, dec_self2, bne_self_eq_false, beq_self_eq_true, bool_ne_self, dec_true, hSd, us1, ur1, us4, us5, ur4, ur22, ur6, ur7, ur29, hln, htop]
  rw [hln]
  rotate_left
  · intro j; simp (maxSteps := 5000000) -dsimp only [gr, Nat.reduceEqDiff, Nat.reduceLT, Nat.reduceAdd, Nat.reduceMod, Nat.reduceBEq, sid_mod, sid_ne1, sid_ne2, sid_inj]
  first | refine askK_of (c_laws_eqPowers _ _) ?_ | refine ⟨by kernel_rfl, askK_of (c_laws_eqPowers _ _) ?_⟩
  simp (maxSteps := 5000000) -dsimp only [↓gp, gq, reduceCtorEq, Nat.reduceEqDiff, Nat.reduceLT, Nat.reduceLeDiff, Nat.reduceAdd, Nat.reduceMul, Nat.reduceSub, Nat.reduceBEq, Int.reduceToNat, Int.reduceLE, Int.reduceLT, Int.reduceNeg, Nat.reduceMod, sid_ne1, sid_ne2, sid_inj, sid_mod, gT, TK.isInt, TK.agg, Array.toList, sameG_refl, dec_self, dec_self2, bne_self_eq_false, beq_self_eq_true, bool_ne_self, dec_true, hSd, us1, ur1, us4, us5, ur4, ur22, ur6, ur7, ur29, hln, htop]
  refine ⟨by kernel_rfl, askTabM_of (c_laws_markPowers x (by omega) (by omega)) (by repeat (first | exact GiveL.nil | refine GiveL.v ?_ | refine GiveL.own 0 rfl ?_ | refine GiveL.own 1 rfl ?_ | refine GiveL.ag ?_ ?_)) (hS.same (by simp (maxSteps := 5000000) -dsimp only [gr, Nat.reduceEqDiff, Nat.reduceLT, Nat.reduceAdd, Nat.reduceMod, Nat.reduceBEq, sid_mod, sid_ne1, sid_ne2, sid_inj]) (fun j => by simp (maxSteps := 5000000) -dsimp only [gr, Nat.reduceEqDiff, Nat.reduceLT, Nat.reduceAdd, Nat.reduceMod, Nat.reduceBEq, sid_mod, sid_ne1, sid_ne2, sid_inj])) (mixM_length 1 x x.length) (by decide) fun S3 q hS3 hql hS3d hs3 hr3 => ?_⟩
  have ys1 : S3.sl 1 = .ref 1 1 0 := by rw [hs3 1 (by decide)]; simp (maxSteps := 5000000) -dsimp only [gr, Nat.reduceEqDiff, Nat.reduceLT, Nat.reduceAdd, Nat.reduceMod, Nat.reduceBEq, sid_mod, sid_ne1, sid_ne2, sid_inj, us1, ur1, us4, us5, ur4, ur22, ur6, ur7, ur29]
  have yr1 : S3.rw 1 = ⟨1, .box 24 [int2 x]⟩ := by rw [hr3 1 (by decide)]; simp (maxSteps := 5000000) -dsimp only [gr, Nat.reduceEqDiff, Nat.reduceLT, Nat.reduceAdd, Nat.reduceMod, Nat.reduceBEq, sid_mod, sid_ne1, sid_ne2, sid_inj, us1, ur1, us4, us5, ur4, ur22, ur6, ur7, ur29]
  have ys4 : S3.sl 4 = .ref 4 1 0 := by rw [hs3 4 (by decide)]; simp (maxSteps := 5000000) -dsimp only [gr, Nat.reduceEqDiff, Nat.reduceLT, Nat.reduceAdd, Nat.reduceMod, Nat.reduceBEq, sid_mod, sid_ne1, sid_ne2, sid_inj, us1, ur1, us4, us5, ur4, ur22, ur6, ur7, ur29]
  have ys5 : S3.sl 5 = bool B := by rw [hs3 5 (by decide)]; simp (maxSteps := 5000000) -dsimp only [gr, Nat.reduceEqDiff, Nat.reduceLT, Nat.reduceAdd, Nat.reduceMod, Nat.reduceBEq, sid_mod, sid_ne1, sid_ne2, sid_inj, us1, ur1, us4, us5, ur4, ur22, ur6, ur7, ur29]
  have yr4 : S3.rw 4 = ⟨1, .box 43 [int O, .own 22 1]⟩ := by rw [hr3 4 (by decide)]; simp (maxSteps := 5000000) -dsimp only [gr, Nat.reduceEqDiff, Nat.reduceLT, Nat.reduceAdd, Nat.reduceMod, Nat.reduceBEq, sid_mod, sid_ne1, sid_ne2, sid_inj, us1, ur1, us4, us5, ur4, ur22, ur6, ur7, ur29]
  have yr22 : S3.rw 22 = ⟨1, .sli 3 1 false (iL V)⟩ := by rw [hr3 22 (by decide)]; simp (maxSteps := 5000000) -dsimp only [gr, Nat.reduceEqDiff, Nat.reduceLT, Nat.reduceAdd, Nat.reduceMod, Nat.reduceBEq, sid_mod, sid_ne1, sid_ne2, sid_inj, us1, ur1, us4, us5, ur4, ur22, ur6, ur7, ur29]
  have ys7 : S3.sl 7 = .ref 7 1 0 := by rw [hs3 7 (by decide)]; simp (maxSteps := 5000000) -dsimp only [gr, Nat.reduceEqDiff, Nat.reduceLT, Nat.reduceAdd, Nat.reduceMod, Nat.reduceBEq, sid_mod, sid_ne1, sid_ne2, sid_inj, us1, ur1, us4, us5, ur4, ur22, ur6, ur7, ur29]
  have ys8 : S3.sl 8 = bool B := by rw [hs3 8 (by decide)]; simp (maxSteps := 5000000) -dsimp only [gr, Nat.reduceEqDiff, Nat.reduceLT, Nat.reduceAdd, Nat.reduceMod, Nat.reduceBEq, sid_mod, sid_ne1, sid_ne2, sid_inj, us1, ur1, us4, us5, ur4, ur22, ur6, ur7, ur29]
  have yr7 : S3.rw 7 = ⟨1, .box 43 [int O, .own 29 1]⟩ := by rw [hr3 7 (by decide)]; simp (maxSteps := 5000000) -dsimp only [gr, Nat.reduceEqDiff, Nat.reduceLT, Nat.reduceAdd, Nat.reduceMod, Nat.reduceBEq, sid_mod, sid_ne1, sid_ne2, sid_inj, us1, ur1, us4, us5, ur4, ur22, ur6, ur7, ur29]
  have yr29 : S3.rw 29 = ⟨1, .sli 3 1 false (iL V)⟩ := by rw [hr3 29 (by decide)]; simp (maxSteps := 5000000) -dsimp only [gr, Nat.reduceEqDiff, Nat.reduceLT, Nat.reduceAdd, Nat.reduceMod, Nat.reduceBEq, sid_mod, sid_ne1, sid_ne2, sid_inj, us1, ur1, us4, us5, ur4, ur22, ur6, ur7, ur29]
  clear hs3 hr3
  have hk1 : decide (1 + (sumL x x.length : Int) < 0) = false := decide_eq_false (by omega)
  simp (maxSteps := 5000000) -dsimp only [↓gp, gq, reduceCtorEq, Nat.reduceEqDiff, Nat.reduceLT, Nat.reduceLeDiff, Nat.reduceAdd, Nat.reduceMul, Nat.reduceSub, Nat.reduceBEq, Int.reduceToNat, Int.reduceLE, Int.reduceLT, Int.reduceNeg, Nat.reduceMod, sid_ne1, sid_ne2, sid_inj, sid_mod, gT, TK.isInt, TK.agg, Array.toList, sameG_refl, dec_self, dec_self2, bne_self_eq_false, beq_self_eq_true, bool_ne_self, dec_true, hS3d, ys1, yr1, ys4, ys5, yr4, yr22, ys7, ys8, yr7, yr29, hk1]
  first | refine askK_of (c_laws_eqIdeal _ _ _ _) ?_ | refine ⟨by kernel_rfl, askK_of (c_laws_eqIdeal _ _ _ _) ?_⟩
  simp (maxSteps := 5000000) -dsimp only [↓gp, gq, reduceCtorEq, Nat.reduceEqDiff, Nat.reduceLT, Nat.reduceLeDiff, Nat.reduceAdd, Nat.reduceMul, Nat.reduceSub, Nat.reduceBEq, Int.reduceToNat, Int.reduceLE, Int.reduceLT, Int.reduceNeg, Nat.reduceMod, sid_ne1, sid_ne2, sid_inj, sid_mod, gT, TK.isInt, TK.agg, Array.toList, sameG_refl, dec_self, dec_self2, bne_self_eq_false, beq_self_eq_true, bool_ne_self, dec_true, hS3d, ys1, yr1, ys4, ys5, yr4, yr22, ys7, ys8, yr7, yr29, hk1]
  have hk2 : decide (1 + (V.length : Int) < 0) = false := decide_eq_false (by omega)
  refine askM_of (c_laws_markIdeal O V 1 (by omega) (by decide) (by decide)) [(29, 1)] (by repeat (first | exact GiveL.nil | refine GiveL.v ?_ | refine GiveL.own 0 rfl ?_ | refine GiveL.own 1 rfl ?_ | refine GiveL.ag ?_ ?_)) ⟨by simp (maxSteps := 5000000) -dsimp only [gr, Nat.reduceEqDiff, Nat.reduceLT, Nat.reduceAdd, Nat.reduceMod, Nat.reduceBEq, sid_mod, sid_ne1, sid_ne2, sid_inj, yr29], trivial⟩ (by decide) ?_
  simp (maxSteps := 5000000) -dsimp only [↓gp, gq, reduceCtorEq, Nat.reduceEqDiff, Nat.reduceLT, Nat.reduceLeDiff, Nat.reduceAdd, Nat.reduceMul, Nat.reduceSub, Nat.reduceBEq, Int.reduceToNat, Int.reduceLE, Int.reduceLT, Int.reduceNeg, Nat.reduceMod, sid_ne1, sid_ne2, sid_inj, sid_mod, gT, TK.isInt, TK.agg, Array.toList, sameG_refl, dec_self, dec_self2, bne_self_eq_false, beq_self_eq_true, bool_ne_self, dec_true, hS3d, ys1, yr1, ys4, ys5, yr4, yr22, ys7, ys8, yr7, yr29, hk1, hk2]
  first | refine askK_of (c_laws_heldIdeal O 1 V.length (by omega) (by decide) (by decide)) ?_ | refine ⟨by kernel_rfl, askK_of (c_laws_heldIdeal O 1 V.length (by omega) (by decide) (by decide)) ?_⟩
  simp (maxSteps := 5000000) -dsimp only [↓gp, gq, reduceCtorEq, Nat.reduceEqDiff, Nat.reduceLT, Nat.reduceLeDiff, Nat.reduceAdd, Nat.reduceMul, Nat.reduceSub, Nat.reduceBEq, Int.reduceToNat, Int.reduceLE, Int.reduceLT, Int.reduceNeg, Nat.reduceMod, sid_ne1, sid_ne2, sid_inj, sid_mod, gT, TK.isInt, TK.agg, Array.toList, sameG_refl, dec_self, dec_self2, bne_self_eq_false, beq_self_eq_true, bool_ne_self, dec_true, hS3d, ys1, yr1, ys4, ys5, yr4, yr22, ys7, ys8, yr7, yr29, hk1, hk2]
  first | refine askK_of (c_laws_toPowers x (c_laws_toIntSS x hx.1 hx.2)) ?_ | refine ⟨by kernel_rfl, askK_of (c_laws_toPowers x (c_laws_toIntSS x hx.1 hx.2)) ?_⟩
  simp (maxSteps := 5000000) -dsimp only [↓gp, gq, reduceCtorEq, Nat.reduceEqDiff, Nat.reduceLT, Nat.reduceLeDiff, Nat.reduceAdd, Nat.reduceMul, Nat.reduceSub, Nat.reduceBEq, Int.reduceToNat, Int.reduceLE, Int.reduceLT, Int.reduceNeg, Nat.reduceMod, sid_ne1, sid_ne2, sid_inj, sid_mod, gT, TK.isInt, TK.agg, Array.toList, sameG_refl, dec_self, dec_self2, bne_self_eq_false, beq_self_eq_true, bool_ne_self, dec_true, hS3d, ys1, yr1, ys4, ys5, yr4, yr22, ys7, ys8, yr7, yr29, hk1, hk2]
  first | refine askK_of (hI) ?_ | refine ⟨by kernel_rfl, askK_of (hI) ?_⟩
  simp (maxSteps := 5000000) -dsimp only [↓gp, gq, reduceCtorEq, Nat.reduceEqDiff, Nat.reduceLT, Nat.reduceLeDiff, Nat.reduceAdd, Nat.reduceMul, Nat.reduceSub, Nat.reduceBEq, Int.reduceToNat, Int.reduceLE, Int.reduceLT, Int.reduceNeg, Nat.reduceMod, sid_ne1, sid_ne2, sid_inj, sid_mod, gT, TK.isInt, TK.agg, Array.toList, sameG_refl, dec_self, dec_self2, bne_self_eq_false, beq_self_eq_true, bool_ne_self, dec_true, hS3d, ys1, yr1, ys4, ys5, yr4, yr22, ys7, ys8, yr7, yr29, hk1, hk2]
  first | refine askK_of (c_laws_eqIdeal _ _ _ _) ?_ | refine ⟨by kernel_rfl, askK_of (c_laws_eqIdeal _ _ _ _) ?_⟩
  simp (maxSteps := 5000000) -dsimp only [↓gp, gq, reduceCtorEq, Nat.reduceEqDiff, Nat.reduceLT, Nat.reduceLeDiff, Nat.reduceAdd, Nat.reduceMul, Nat.reduceSub, Nat.reduceBEq, Int.reduceToNat, Int.reduceLE, Int.reduceLT, Int.reduceNeg, Nat.reduceMod, sid_ne1, sid_ne2, sid_inj, sid_mod, gT, TK.isInt, TK.agg, Array.toList, sameG_refl, dec_self, dec_self2, bne_self_eq_false, beq_self_eq_true, bool_ne_self, dec_true, hS3d, ys1, yr1, ys4, ys5, yr4, yr22, ys7, ys8, yr7, yr29, hk1, hk2]
  first | refine askK_of (c_laws_heldIdeal O 1 V.length (by omega) (by decide) (by decide)) ?_ | refine ⟨by kernel_rfl, askK_of (c_laws_heldIdeal O 1 V.length (by omega) (by decide) (by decide)) ?_⟩
  simp (maxSteps := 5000000) -dsimp only [↓gp, gq, reduceCtorEq, Nat.reduceEqDiff, Nat.reduceLT, Nat.reduceLeDiff, Nat.reduceAdd, Nat.reduceMul, Nat.reduceSub, Nat.reduceBEq, Int.reduceToNat, Int.reduceLE, Int.reduceLT, Int.reduceNeg, Nat.reduceMod, sid_ne1, sid_ne2, sid_inj, sid_mod, gT, TK.isInt, TK.agg, Array.toList, sameG_refl, dec_self, dec_self2, bne_self_eq_false, beq_self_eq_true, bool_ne_self, dec_true, hS3d, ys1, yr1, ys4, ys5, yr4, yr22, ys7, ys8, yr7, yr29, hk1, hk2]
  all_goals first | done | exact (by kernel_rfl) | exact ⟨by kernel_rfl, trivial⟩ | trivial
end Go.Proofs.Ytnfpeinbdfmlnaa
