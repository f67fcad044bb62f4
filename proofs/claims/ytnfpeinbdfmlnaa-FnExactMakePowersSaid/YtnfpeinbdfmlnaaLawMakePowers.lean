/- DERIVED by an AI agent. -/
import Derived.Test.YtnfpeinbdfmlnaaQ3
import Derived.Test.YtnfpeinbdfmlnaaQ2
import Derived.Test.YtnfpeinbdfmlnaaP1
namespace Go.Proofs.Ytnfpeinbdfmlnaa
open Go.Abs
set_option linter.unusedSimpArgs false
set_option linter.unusedVariables false

theorem mkV_len (l : List (List Int)) : (mkV l).length ≤ 27 := by
  unfold mkV; split
  · exact mkO_len l 27
  · decide
theorem mkV_sum (l : List (List Int)) : sumL (mkV l) (mkV l).length ≤ 1000 := by
  have h3 : ∀ i, sumL (mkV l) i ≤ 3 * i := by
    intro i
    induction i with
    | zero => simp [sumL]
    | succ i ih =>
      rw [sumL]
      have : ((mkV l).getD i []).length ≤ 3 := by
        unfold mkV; split
        · by_cases hi : i < (mkO l 27).length
          · have hm := getD_mem [] hi
            rw [mkO_eq] at hm
            obtain ⟨n, _, hn⟩ := List.mem_map.1 hm
            rw [mkO_eq, ← hn]; exact Nat.le_refl _
          · simp [List.getD, hi]
        · simp
      omega
  have := h3 (mkV l).length
  have := mkV_len l
  omega
theorem c_laws_FnExactMakePowers (l : List (List Int)) : AC Try.prog 5 [int2 l] (.im (bool true)) := by
  refine AC.go (rs := [.tmp 2]) T_ok mixed Try.func5 rfl rfl rfl (by kernel_rfl) fun hl => ?_
  simp (maxSteps := 5000000) -dsimp only [↓gp, gq, reduceCtorEq, Nat.reduceEqDiff, Nat.reduceLT, Nat.reduceLeDiff, Nat.reduceAdd, Nat.reduceMul, Nat.reduceSub, Nat.reduceBEq, Int.reduceToNat, Int.reduceLE, Int.reduceLT, Int.reduceNeg, Nat.reduceMod, sid_ne1, sid_ne2, sid_inj, sid_mod, gT, TK.isInt, TK.agg, Array.toList, dec_self, dec_self2, bne_self_eq_false, beq_self_eq_true, bool_ne_self, dec_true]
  first | refine askK_of (c_laws_szIntSS l 1048576 (by decide) (by decide)) ?_ | refine ⟨by kernel_rfl, askK_of (c_laws_szIntSS l 1048576 (by decide) (by decide)) ?_⟩
  simp (maxSteps := 5000000) -dsimp only [↓gp, gq, reduceCtorEq, Nat.reduceEqDiff, Nat.reduceLT, Nat.reduceLeDiff, Nat.reduceAdd, Nat.reduceMul, Nat.reduceSub, Nat.reduceBEq, Int.reduceToNat, Int.reduceLE, Int.reduceLT, Int.reduceNeg, Nat.reduceMod, sid_ne1, sid_ne2, sid_inj, sid_mod, gT, TK.isInt, TK.agg, Array.toList, dec_self, dec_self2, bne_self_eq_false, beq_self_eq_true, bool_ne_self, dec_true]
  intro hs_x
  have hx : l.length ≤ 1048576 ∧ ∀ r ∈ l, r.length ≤ 1048576 := szSS_le hs_x
  have hsum := szSS_sum hs_x
  first | refine askK_of (c_laws_toIntSS l hx.1 hx.2) ?_ | refine ⟨by kernel_rfl, askK_of (c_laws_toIntSS l hx.1 hx.2) ?_⟩
  simp (maxSteps := 5000000) -dsimp only [↓gp, gq, reduceCtorEq, Nat.reduceEqDiff, Nat.reduceLT, Nat.reduceLeDiff, Nat.reduceAdd, Nat.reduceMul, Nat.reduceSub, Nat.reduceBEq, Int.reduceToNat, Int.reduceLE, Int.reduceLT, Int.reduceNeg, Nat.reduceMod, sid_ne1, sid_ne2, sid_inj, sid_mod, gT, TK.isInt, TK.agg, Array.toList, dec_self, dec_self2, bne_self_eq_false, beq_self_eq_true, bool_ne_self, dec_true]
  have hS0 := (c_spec_MakePowers l hx.1).flatT
  have hI := c_impl_MakePowers l hx.1
  have hI0 := hI.flatT
  rw [mapT_I] at hS0 hI0
  have hvl := mkV_len l
  have hvs := mkV_sum l
  generalize mkV l = V at *
  generalize mkB l = B at *
  first | refine askK_of (hS0) ?_ | refine ⟨by kernel_rfl, askK_of (hS0) ?_⟩
  simp (maxSteps := 5000000) -dsimp only [↓gp, gq, reduceCtorEq, Nat.reduceEqDiff, Nat.reduceLT, Nat.reduceLeDiff, Nat.reduceAdd, Nat.reduceMul, Nat.reduceSub, Nat.reduceBEq, Int.reduceToNat, Int.reduceLE, Int.reduceLT, Int.reduceNeg, Nat.reduceMod, sid_ne1, sid_ne2, sid_inj, sid_mod, gT, TK.isInt, TK.agg, Array.toList, dec_self, dec_self2, bne_self_eq_false, beq_self_eq_true, bool_ne_self, dec_true]
  refine askNew_of (d := 26) (c_laws_toIntSSN l hx.1 hx.2) (.inl rfl) (.one (.sl _ _ _) .nil) (fun i _ => by simp (maxSteps := 5000000) -dsimp only [gr, Nat.reduceEqDiff, Nat.reduceLT, Nat.reduceAdd, Nat.reduceMod, Nat.reduceBEq, sid_mod, sid_ne1, sid_ne2, sid_inj]) fun S hS0 hSd0 hSs hSr => ?_
  have hS : TabI S.rw 26 1 31 3 (List.range l.length) l := hS0
  have hSd : S.sl 26 = .own 26 1 := hSd0
  have us0 : S.sl 0 = int2 l := by rw [hSs 0 (by decide)]; simp (maxSteps := 5000000) -dsimp only [gr, Nat.reduceEqDiff, Nat.reduceLT, Nat.reduceAdd, Nat.reduceMod, Nat.reduceBEq, sid_mod, sid_ne1, sid_ne2, sid_inj]
  have us4 : S.sl 4 = .ref 4 1 0 := by rw [hSs 4 (by decide)]; simp (maxSteps := 5000000) -dsimp only [gr, Nat.reduceEqDiff, Nat.reduceLT, Nat.reduceAdd, Nat.reduceMod, Nat.reduceBEq, sid_mod, sid_ne1, sid_ne2, sid_inj]
  have us5 : S.sl 5 = bool B := by rw [hSs 5 (by decide)]; simp (maxSteps := 5000000) -dsimp only [gr, Nat.reduceEqDiff, Nat.reduceLT, Nat.reduceAdd, Nat.reduceMod, Nat.reduceBEq, sid_mod, sid_ne1, sid_ne2, sid_inj]
  have ur4 : S.rw 4 = ⟨1, .box 27 [.own 22 1]⟩ := by rw [hSr 4 (by decide)]; simp (maxSteps := 5000000) -dsimp only [gr, Nat.reduceEqDiff, Nat.reduceLT, Nat.reduceAdd, Nat.reduceMod, Nat.reduceBEq, sid_mod, sid_ne1, sid_ne2, sid_inj]
  have ur22 : S.rw 22 = ⟨1, .sli 31 1 false (iLL V)⟩ := by rw [hSr 22 (by decide)]; simp (maxSteps := 5000000) -dsimp only [gr, Nat.reduceEqDiff, Nat.reduceLT, Nat.reduceAdd, Nat.reduceMod, Nat.reduceBEq, sid_mod, sid_ne1, sid_ne2, sid_inj]
  have ur7 : S.rw 7 = ⟨0, .dead⟩ := by rw [hSr 7 (by decide)]; simp (maxSteps := 5000000) -dsimp only [gr, Nat.reduceEqDiff, Nat.reduceLT, Nat.reduceAdd, Nat.reduceMod, Nat.reduceBEq, sid_mod, sid_ne1, sid_ne2, sid_inj]
  have ur29 : S.rw 29 = ⟨0, .dead⟩ := by rw [hSr 29 (by decide)]; simp (maxSteps := 5000000) -dsimp only [gr, Nat.reduceEqDiff, Nat.reduceLT, Nat.reduceAdd, Nat.reduceMod, Nat.reduceBEq, sid_mod, sid_ne1, sid_ne2, sid_inj]
  have ud : ∀ i, S.rw (sid 29 i) = ⟨0, .dead⟩ := fun i => by rw [hSr _ (by rw [sid_mod]; decide)]; simp (maxSteps := 5000000) -dsimp only [gr, Nat.reduceEqDiff, Nat.reduceLT, Nat.reduceAdd, Nat.reduceMod, Nat.reduceBEq, sid_mod, sid_ne1, sid_ne2, sid_inj]
  have hln := lend_tabI hS
  have htop := hS.top
  clear hSs hSr hS0 hSd0
  simp (maxSteps := 5000000) -dsimp only [↓gp, gq, reduceCtorEq, Nat.reduceEqDiff, Nat.reduceLT, Nat.reduceLeDiff, Nat.reduceAdd, Nat.reduceMul, Nat.reduceSub, Nat.reduceBEq, Int.reduceToNat, Int.reduceLE, Int.reduceLT, Int.reduceNeg, Nat.reduceMod, sid_ne1, sid_ne2, sid_inj, sid_mod, gT, TK.isInt, TK.agg, Array.toList, dec_self, dec_self2, bne_self_eq_false, beq_self_eq_true, bool_ne_self, dec_true, hSd, us0, us4, us5, ur4, ur22, ur7, ur29, hln, htop]
  refine askTabB_of (d := 29) hI (fun i _ => by simp (maxSteps := 5000000) -dsimp only [gr, Nat.reduceEqDiff, Nat.reduceLT, Nat.reduceAdd, Nat.reduceMod, Nat.reduceBEq, sid_mod, sid_ne1, sid_ne2, sid_inj, ud]) fun S2 hT0 hTd0 hs2 hr2 => ?_
  have e29 : ∀ n : Nat, n = 0 → n + 1 = 1 := fun n h => by omega
  rw [e29 _ (by simp (maxSteps := 5000000) -dsimp only [gr, Nat.reduceEqDiff, Nat.reduceLT, Nat.reduceAdd, Nat.reduceMod, Nat.reduceBEq, sid_mod, sid_ne1, sid_ne2, sid_inj, ur29])] at hT0 hTd0
  have hX : TabI S2.rw 26 1 31 3 (List.range l.length) l := hS.same (by rw [hr2 26 (by decide)]; simp (maxSteps := 5000000) -dsimp only [gr, Nat.reduceEqDiff, Nat.reduceLT, Nat.reduceAdd, Nat.reduceMod, Nat.reduceBEq, sid_mod, sid_ne1, sid_ne2, sid_inj]) (fun x => by rw [hr2 _ (by rw [sid_mod]; decide)]; simp (maxSteps := 5000000) -dsimp only [gr, Nat.reduceEqDiff, Nat.reduceLT, Nat.reduceAdd, Nat.reduceMod, Nat.reduceBEq, sid_mod, sid_ne1, sid_ne2, sid_inj])
  have vs0 : S2.sl 0 = int2 l := by rw [hs2 0 (by decide)]; simp (maxSteps := 5000000) -dsimp only [gr, Nat.reduceEqDiff, Nat.reduceLT, Nat.reduceAdd, Nat.reduceMod, Nat.reduceBEq, sid_mod, sid_ne1, sid_ne2, sid_inj, us0, us4, us5, ur4, ur22, ur7, ur29, hSd]
  have vs4 : S2.sl 4 = .ref 4 1 0 := by rw [hs2 4 (by decide)]; simp (maxSteps := 5000000) -dsimp only [gr, Nat.reduceEqDiff, Nat.reduceLT, Nat.reduceAdd, Nat.reduceMod, Nat.reduceBEq, sid_mod, sid_ne1, sid_ne2, sid_inj, us0, us4, us5, ur4, ur22, ur7, ur29, hSd]
  have vs5 : S2.sl 5 = bool B := by rw [hs2 5 (by decide)]; simp (maxSteps := 5000000) -dsimp only [gr, Nat.reduceEqDiff, Nat.reduceLT, Nat.reduceAdd, Nat.reduceMod, Nat.reduceBEq, sid_mod, sid_ne1, sid_ne2, sid_inj, us0, us4, us5, ur4, ur22, ur7, ur29, hSd]
  have vr4 : S2.rw 4 = ⟨1, .box 27 [.own 22 1]⟩ := by rw [hr2 4 (by decide)]; simp (maxSteps := 5000000) -dsimp only [gr, Nat.reduceEqDiff, Nat.reduceLT, Nat.reduceAdd, Nat.reduceMod, Nat.reduceBEq, sid_mod, sid_ne1, sid_ne2, sid_inj, us0, us4, us5, ur4, ur22, ur7, ur29, hSd]
  have vr22 : S2.rw 22 = ⟨1, .sli 31 1 false (iLL V)⟩ := by rw [hr2 22 (by decide)]; simp (maxSteps := 5000000) -dsimp only [gr, Nat.reduceEqDiff, Nat.reduceLT, Nat.reduceAdd, Nat.reduceMod, Nat.reduceBEq, sid_mod, sid_ne1, sid_ne2, sid_inj, us0, us4, us5, ur4, ur22, ur7, ur29, hSd]
  have vs6 : S2.sl 6 = .own 26 1 := by rw [hs2 6 (by decide)]; simp (maxSteps := 5000000) -dsimp only [gr, Nat.reduceEqDiff, Nat.reduceLT, Nat.reduceAdd, Nat.reduceMod, Nat.reduceBEq, sid_mod, sid_ne1, sid_ne2, sid_inj, us0, us4, us5, ur4, ur22, ur7, ur29, hSd]
  have vr7 : S2.rw 7 = ⟨0, .dead⟩ := by rw [hr2 7 (by decide)]; simp (maxSteps := 5000000) -dsimp only [gr, Nat.reduceEqDiff, Nat.reduceLT, Nat.reduceAdd, Nat.reduceMod, Nat.reduceBEq, sid_mod, sid_ne1, sid_ne2, sid_inj, us0, us4, us5, ur4, ur22, ur7, ur29, hSd]
  have hln1 := lend_tabI hX
  have hln2 := lend_tabI hT0
  have ht1 := hX.top
  have ht2 := hT0.top
  clear hs2 hr2
  simp (maxSteps := 5000000) -dsimp only [↓gp, gq, reduceCtorEq, Nat.reduceEqDiff, Nat.reduceLT, Nat.reduceLeDiff, Nat.reduceAdd, Nat.reduceMul, Nat.reduceSub, Nat.reduceBEq, Int.reduceToNat, Int.reduceLE, Int.reduceLT, Int.reduceNeg, Nat.reduceMod, sid_ne1, sid_ne2, sid_inj, sid_mod, gT, TK.isInt, TK.agg, Array.toList, dec_self, dec_self2, bne_self_eq_false, beq_self_eq_true, bool_ne_self, dec_true, hTd0, vs0, vs4, vs5, vr4, vr22, vs6, vr7, hln1, hln2, ht1, ht2]
  rw [hln2]
  rotate_left
  · intro j; simp (maxSteps := 5000000) -dsimp only [gr, Nat.reduceEqDiff, Nat.reduceLT, Nat.reduceAdd, Nat.reduceMod, Nat.reduceBEq, sid_mod, sid_ne1, sid_ne2, sid_inj]
  first | refine askK_of (c_laws_eqPowers V V) ?_ | refine ⟨by kernel_rfl, askK_of (c_laws_eqPowers V V) ?_⟩
  simp (maxSteps := 5000000) -dsimp only [↓gp, gq, reduceCtorEq, Nat.reduceEqDiff, Nat.reduceLT, Nat.reduceLeDiff, Nat.reduceAdd, Nat.reduceMul, Nat.reduceSub, Nat.reduceBEq, Int.reduceToNat, Int.reduceLE, Int.reduceLT, Int.reduceNeg, Nat.reduceMod, sid_ne1, sid_ne2, sid_inj, sid_mod, gT, TK.isInt, TK.agg, Array.toList, dec_self, dec_self2, bne_self_eq_false, beq_self_eq_true, bool_ne_self, dec_true, hTd0, vs0, vs4, vs5, vr4, vr22, vs6, vr7, hln1, hln2, ht1, ht2]
  first | refine askK_of (c_laws_toIntSS l hx.1 hx.2) ?_ | refine ⟨by kernel_rfl, askK_of (c_laws_toIntSS l hx.1 hx.2) ?_⟩
  simp (maxSteps := 5000000) -dsimp only [↓gp, gq, reduceCtorEq, Nat.reduceEqDiff, Nat.reduceLT, Nat.reduceLeDiff, Nat.reduceAdd, Nat.reduceMul, Nat.reduceSub, Nat.reduceBEq, Int.reduceToNat, Int.reduceLE, Int.reduceLT, Int.reduceNeg, Nat.reduceMod, sid_ne1, sid_ne2, sid_inj, sid_mod, gT, TK.isInt, TK.agg, Array.toList, dec_self, dec_self2, bne_self_eq_false, beq_self_eq_true, bool_ne_self, dec_true, hTd0, vs0, vs4, vs5, vr4, vr22, vs6, vr7, hln1, hln2, ht1, ht2]
  rw [hln1]
  rotate_left
  · intro j; simp (maxSteps := 5000000) -dsimp only [gr, Nat.reduceEqDiff, Nat.reduceLT, Nat.reduceAdd, Nat.reduceMod, Nat.reduceBEq, sid_mod, sid_ne1, sid_ne2, sid_inj]
  first | refine askK_of (c_laws_eqIntSS l l) ?_ | refine ⟨by kernel_rfl, askK_of (c_laws_eqIntSS l l) ?_⟩
  simp (maxSteps := 5000000) -dsimp only [↓gp, gq, reduceCtorEq, Nat.reduceEqDiff, Nat.reduceLT, Nat.reduceLeDiff, Nat.reduceAdd, Nat.reduceMul, Nat.reduceSub, Nat.reduceBEq, Int.reduceToNat, Int.reduceLE, Int.reduceLT, Int.reduceNeg, Nat.reduceMod, sid_ne1, sid_ne2, sid_inj, sid_mod, gT, TK.isInt, TK.agg, Array.toList, dec_self, dec_self2, bne_self_eq_false, beq_self_eq_true, bool_ne_self, dec_true, hTd0, vs0, vs4, vs5, vr4, vr22, vs6, vr7, hln1, hln2, ht1, ht2]
  refine askTabM_of (c_laws_markIntSSG l (by omega) (by omega)) (by repeat (first | exact GiveL.nil | refine GiveL.v ?_ | refine GiveL.own 0 rfl ?_ | refine GiveL.own 1 rfl ?_ | refine GiveL.ag ?_ ?_)) (hX.same (by simp (maxSteps := 5000000) -dsimp only [gr, Nat.reduceEqDiff, Nat.reduceLT, Nat.reduceAdd, Nat.reduceMod, Nat.reduceBEq, sid_mod, sid_ne1, sid_ne2, sid_inj]) (fun j => by simp (maxSteps := 5000000) -dsimp only [gr, Nat.reduceEqDiff, Nat.reduceLT, Nat.reduceAdd, Nat.reduceMod, Nat.reduceBEq, sid_mod, sid_ne1, sid_ne2, sid_inj])) (mixM_length 1 l l.length) (by decide) fun S3 q hS3 hql hS3d hs3 hr3 => ?_
  have ys0 : S3.sl 0 = int2 l := by rw [hs3 0 (by decide)]; simp (maxSteps := 5000000) -dsimp only [gr, Nat.reduceEqDiff, Nat.reduceLT, Nat.reduceAdd, Nat.reduceMod, Nat.reduceBEq, sid_mod, sid_ne1, sid_ne2, sid_inj, vs0, vs4, vs5, vr4, vr22, vs6, vr7]
  have ys4 : S3.sl 4 = .ref 4 1 0 := by rw [hs3 4 (by decide)]; simp (maxSteps := 5000000) -dsimp only [gr, Nat.reduceEqDiff, Nat.reduceLT, Nat.reduceAdd, Nat.reduceMod, Nat.reduceBEq, sid_mod, sid_ne1, sid_ne2, sid_inj, vs0, vs4, vs5, vr4, vr22, vs6, vr7]
  have ys5 : S3.sl 5 = bool B := by rw [hs3 5 (by decide)]; simp (maxSteps := 5000000) -dsimp only [gr, Nat.reduceEqDiff, Nat.reduceLT, Nat.reduceAdd, Nat.reduceMod, Nat.reduceBEq, sid_mod, sid_ne1, sid_ne2, sid_inj, vs0, vs4, vs5, vr4, vr22, vs6, vr7]
  have yr4 : S3.rw 4 = ⟨1, .box 27 [.own 22 1]⟩ := by rw [hr3 4 (by decide)]; simp (maxSteps := 5000000) -dsimp only [gr, Nat.reduceEqDiff, Nat.reduceLT, Nat.reduceAdd, Nat.reduceMod, Nat.reduceBEq, sid_mod, sid_ne1, sid_ne2, sid_inj, vs0, vs4, vs5, vr4, vr22, vs6, vr7]
  have yr22 : S3.rw 22 = ⟨1, .sli 31 1 false (iLL V)⟩ := by rw [hr3 22 (by decide)]; simp (maxSteps := 5000000) -dsimp only [gr, Nat.reduceEqDiff, Nat.reduceLT, Nat.reduceAdd, Nat.reduceMod, Nat.reduceBEq, sid_mod, sid_ne1, sid_ne2, sid_inj, vs0, vs4, vs5, vr4, vr22, vs6, vr7]
  have ys7 : S3.sl 7 = .ref 7 1 0 := by rw [hs3 7 (by decide)]; simp (maxSteps := 5000000) -dsimp only [gr, Nat.reduceEqDiff, Nat.reduceLT, Nat.reduceAdd, Nat.reduceMod, Nat.reduceBEq, sid_mod, sid_ne1, sid_ne2, sid_inj, vs0, vs4, vs5, vr4, vr22, vs6, vr7]
  have ys8 : S3.sl 8 = bool B := by rw [hs3 8 (by decide)]; simp (maxSteps := 5000000) -dsimp only [gr, Nat.reduceEqDiff, Nat.reduceLT, Nat.reduceAdd, Nat.reduceMod, Nat.reduceBEq, sid_mod, sid_ne1, sid_ne2, sid_inj, vs0, vs4, vs5, vr4, vr22, vs6, vr7]
  have yr7 : S3.rw 7 = ⟨1, .box 27 [.own 29 1]⟩ := by rw [hr3 7 (by decide)]; simp (maxSteps := 5000000) -dsimp only [gr, Nat.reduceEqDiff, Nat.reduceLT, Nat.reduceAdd, Nat.reduceMod, Nat.reduceBEq, sid_mod, sid_ne1, sid_ne2, sid_inj, vs0, vs4, vs5, vr4, vr22, vs6, vr7]
  have hT3 : TabI S3.rw 29 1 31 3 (List.range V.length) V := hT0.same (by rw [hr3 29 (by decide)]; simp (maxSteps := 5000000) -dsimp only [gr, Nat.reduceEqDiff, Nat.reduceLT, Nat.reduceAdd, Nat.reduceMod, Nat.reduceBEq, sid_mod, sid_ne1, sid_ne2, sid_inj]) (fun x => by rw [hr3 _ (by rw [sid_mod]; decide)]; simp (maxSteps := 5000000) -dsimp only [gr, Nat.reduceEqDiff, Nat.reduceLT, Nat.reduceAdd, Nat.reduceMod, Nat.reduceBEq, sid_mod, sid_ne1, sid_ne2, sid_inj])
  have hln3 := lend_tabI hT3
  have ht3 := hT3.top
  clear hs3 hr3
  have hk1 : decide (1 + (sumL l l.length : Int) < 0) = false := decide_eq_false (by omega)
  simp (maxSteps := 5000000) -dsimp only [↓gp, gq, reduceCtorEq, Nat.reduceEqDiff, Nat.reduceLT, Nat.reduceLeDiff, Nat.reduceAdd, Nat.reduceMul, Nat.reduceSub, Nat.reduceBEq, Int.reduceToNat, Int.reduceLE, Int.reduceLT, Int.reduceNeg, Nat.reduceMod, sid_ne1, sid_ne2, sid_inj, sid_mod, gT, TK.isInt, TK.agg, Array.toList, dec_self, dec_self2, bne_self_eq_false, beq_self_eq_true, bool_ne_self, dec_true, hS3d, ys0, ys4, ys5, yr4, yr22, ys7, ys8, yr7, hln3, ht3, hk1]
  first | refine askK_of (c_laws_eqPowers V V) ?_ | refine ⟨by kernel_rfl, askK_of (c_laws_eqPowers V V) ?_⟩
  simp (maxSteps := 5000000) -dsimp only [↓gp, gq, reduceCtorEq, Nat.reduceEqDiff, Nat.reduceLT, Nat.reduceLeDiff, Nat.reduceAdd, Nat.reduceMul, Nat.reduceSub, Nat.reduceBEq, Int.reduceToNat, Int.reduceLE, Int.reduceLT, Int.reduceNeg, Nat.reduceMod, sid_ne1, sid_ne2, sid_inj, sid_mod, gT, TK.isInt, TK.agg, Array.toList, dec_self, dec_self2, bne_self_eq_false, beq_self_eq_true, bool_ne_self, dec_true, hS3d, ys0, ys4, ys5, yr4, yr22, ys7, ys8, yr7, hln3, ht3, hk1]
  refine askTabM_of (c_laws_markPowers V (by omega) (by omega)) (by repeat (first | exact GiveL.nil | refine GiveL.v ?_ | refine GiveL.own 0 rfl ?_ | refine GiveL.own 1 rfl ?_ | refine GiveL.ag ?_ ?_)) (hT3.same (by simp (maxSteps := 5000000) -dsimp only [gr, Nat.reduceEqDiff, Nat.reduceLT, Nat.reduceAdd, Nat.reduceMod, Nat.reduceBEq, sid_mod, sid_ne1, sid_ne2, sid_inj]) (fun j => by simp (maxSteps := 5000000) -dsimp only [gr, Nat.reduceEqDiff, Nat.reduceLT, Nat.reduceAdd, Nat.reduceMod, Nat.reduceBEq, sid_mod, sid_ne1, sid_ne2, sid_inj])) (mixM_length 1 V V.length) (by decide) fun S4 q4 hS4 hql4 hS4d hs4 hr4 => ?_
  have zs0 : S4.sl 0 = int2 l := by rw [hs4 0 (by decide)]; simp (maxSteps := 5000000) -dsimp only [gr, Nat.reduceEqDiff, Nat.reduceLT, Nat.reduceAdd, Nat.reduceMod, Nat.reduceBEq, sid_mod, sid_ne1, sid_ne2, sid_inj, ys0, ys4, ys5, yr4, yr22, ys7, ys8, yr7]
  have zs4 : S4.sl 4 = .ref 4 1 0 := by rw [hs4 4 (by decide)]; simp (maxSteps := 5000000) -dsimp only [gr, Nat.reduceEqDiff, Nat.reduceLT, Nat.reduceAdd, Nat.reduceMod, Nat.reduceBEq, sid_mod, sid_ne1, sid_ne2, sid_inj, ys0, ys4, ys5, yr4, yr22, ys7, ys8, yr7]
  have zs5 : S4.sl 5 = bool B := by rw [hs4 5 (by decide)]; simp (maxSteps := 5000000) -dsimp only [gr, Nat.reduceEqDiff, Nat.reduceLT, Nat.reduceAdd, Nat.reduceMod, Nat.reduceBEq, sid_mod, sid_ne1, sid_ne2, sid_inj, ys0, ys4, ys5, yr4, yr22, ys7, ys8, yr7]
  have zr4 : S4.rw 4 = ⟨1, .box 27 [.own 22 1]⟩ := by rw [hr4 4 (by decide)]; simp (maxSteps := 5000000) -dsimp only [gr, Nat.reduceEqDiff, Nat.reduceLT, Nat.reduceAdd, Nat.reduceMod, Nat.reduceBEq, sid_mod, sid_ne1, sid_ne2, sid_inj, ys0, ys4, ys5, yr4, yr22, ys7, ys8, yr7]
  have zr22 : S4.rw 22 = ⟨1, .sli 31 1 false (iLL V)⟩ := by rw [hr4 22 (by decide)]; simp (maxSteps := 5000000) -dsimp only [gr, Nat.reduceEqDiff, Nat.reduceLT, Nat.reduceAdd, Nat.reduceMod, Nat.reduceBEq, sid_mod, sid_ne1, sid_ne2, sid_inj, ys0, ys4, ys5, yr4, yr22, ys7, ys8, yr7]
  have zs7 : S4.sl 7 = .ref 7 1 0 := by rw [hs4 7 (by decide)]; simp (maxSteps := 5000000) -dsimp only [gr, Nat.reduceEqDiff, Nat.reduceLT, Nat.reduceAdd, Nat.reduceMod, Nat.reduceBEq, sid_mod, sid_ne1, sid_ne2, sid_inj, ys0, ys4, ys5, yr4, yr22, ys7, ys8, yr7]
  have zs8 : S4.sl 8 = bool B := by rw [hs4 8 (by decide)]; simp (maxSteps := 5000000) -dsimp only [gr, Nat.reduceEqDiff, Nat.reduceLT, Nat.reduceAdd, Nat.reduceMod, Nat.reduceBEq, sid_mod, sid_ne1, sid_ne2, sid_inj, ys0, ys4, ys5, yr4, yr22, ys7, ys8, yr7]
  have zr7 : S4.rw 7 = ⟨1, .box 27 [.own 29 1]⟩ := by rw [hr4 7 (by decide)]; simp (maxSteps := 5000000) -dsimp only [gr, Nat.reduceEqDiff, Nat.reduceLT, Nat.reduceAdd, Nat.reduceMod, Nat.reduceBEq, sid_mod, sid_ne1, sid_ne2, sid_inj, ys0, ys4, ys5, yr4, yr22, ys7, ys8, yr7]
  have hln4 := lend_tabI hS4
  have ht4 := hS4.top
  clear hs4 hr4
  have hk2 : decide (1 + (sumL V V.length : Int) < 0) = false := decide_eq_false (by omega)
  simp (maxSteps := 5000000) -dsimp only [↓gp, gq, reduceCtorEq, Nat.reduceEqDiff, Nat.reduceLT, Nat.reduceLeDiff, Nat.reduceAdd, Nat.reduceMul, Nat.reduceSub, Nat.reduceBEq, Int.reduceToNat, Int.reduceLE, Int.reduceLT, Int.reduceNeg, Nat.reduceMod, sid_ne1, sid_ne2, sid_inj, sid_mod, gT, TK.isInt, TK.agg, Array.toList, dec_self, dec_self2, bne_self_eq_false, beq_self_eq_true, bool_ne_self, dec_true, hS4d, zs0, zs4, zs5, zr4, zr22, zs7, zs8, zr7, hln4, ht4, hk1, hk2]
  first | refine askK_of (c_laws_heldPowers V (by omega) (by omega)) ?_ | refine ⟨by kernel_rfl, askK_of (c_laws_heldPowers V (by omega) (by omega)) ?_⟩
  simp (maxSteps := 5000000) -dsimp only [↓gp, gq, reduceCtorEq, Nat.reduceEqDiff, Nat.reduceLT, Nat.reduceLeDiff, Nat.reduceAdd, Nat.reduceMul, Nat.reduceSub, Nat.reduceBEq, Int.reduceToNat, Int.reduceLE, Int.reduceLT, Int.reduceNeg, Nat.reduceMod, sid_ne1, sid_ne2, sid_inj, sid_mod, gT, TK.isInt, TK.agg, Array.toList, dec_self, dec_self2, bne_self_eq_false, beq_self_eq_true, bool_ne_self, dec_true, hS4d, zs0, zs4, zs5, zr4, zr22, zs7, zs8, zr7, hln4, ht4, hk1, hk2]
  first | refine askK_of (c_laws_toIntSS l hx.1 hx.2) ?_ | refine ⟨by kernel_rfl, askK_of (c_laws_toIntSS l hx.1 hx.2) ?_⟩
  simp (maxSteps := 5000000) -dsimp only [↓gp, gq, reduceCtorEq, Nat.reduceEqDiff, Nat.reduceLT, Nat.reduceLeDiff, Nat.reduceAdd, Nat.reduceMul, Nat.reduceSub, Nat.reduceBEq, Int.reduceToNat, Int.reduceLE, Int.reduceLT, Int.reduceNeg, Nat.reduceMod, sid_ne1, sid_ne2, sid_inj, sid_mod, gT, TK.isInt, TK.agg, Array.toList, dec_self, dec_self2, bne_self_eq_false, beq_self_eq_true, bool_ne_self, dec_true, hS4d, zs0, zs4, zs5, zr4, zr22, zs7, zs8, zr7, hln4, ht4, hk1, hk2]
  first | refine askK_of (hI0) ?_ | refine ⟨by kernel_rfl, askK_of (hI0) ?_⟩
  simp (maxSteps := 5000000) -dsimp only [↓gp, gq, reduceCtorEq, Nat.reduceEqDiff, Nat.reduceLT, Nat.reduceLeDiff, Nat.reduceAdd, Nat.reduceMul, Nat.reduceSub, Nat.reduceBEq, Int.reduceToNat, Int.reduceLE, Int.reduceLT, Int.reduceNeg, Nat.reduceMod, sid_ne1, sid_ne2, sid_inj, sid_mod, gT, TK.isInt, TK.agg, Array.toList, dec_self, dec_self2, bne_self_eq_false, beq_self_eq_true, bool_ne_self, dec_true, hS4d, zs0, zs4, zs5, zr4, zr22, zs7, zs8, zr7, hln4, ht4, hk1, hk2]
  first | refine askK_of (c_laws_eqPowers V V) ?_ | refine ⟨by kernel_rfl, askK_of (c_laws_eqPowers V V) ?_⟩
  simp (maxSteps := 5000000) -dsimp only [↓gp, gq, reduceCtorEq, Nat.reduceEqDiff, Nat.reduceLT, Nat.reduceLeDiff, Nat.reduceAdd, Nat.reduceMul, Nat.reduceSub, Nat.reduceBEq, Int.reduceToNat, Int.reduceLE, Int.reduceLT, Int.reduceNeg, Nat.reduceMod, sid_ne1, sid_ne2, sid_inj, sid_mod, gT, TK.isInt, TK.agg, Array.toList, dec_self, dec_self2, bne_self_eq_false, beq_self_eq_true, bool_ne_self, dec_true, hS4d, zs0, zs4, zs5, zr4, zr22, zs7, zs8, zr7, hln4, ht4, hk1, hk2]
  rw [hln4]
  rotate_left
  · intro j; simp (maxSteps := 5000000) -dsimp only [gr, Nat.reduceEqDiff, Nat.reduceLT, Nat.reduceAdd, Nat.reduceMod, Nat.reduceBEq, sid_mod, sid_ne1, sid_ne2, sid_inj]
  first | refine askK_of (c_laws_heldPowers V (by omega) (by omega)) ?_ | refine ⟨by kernel_rfl, askK_of (c_laws_heldPowers V (by omega) (by omega)) ?_⟩
  simp (maxSteps := 5000000) -dsimp only [↓gp, gq, reduceCtorEq, Nat.reduceEqDiff, Nat.reduceLT, Nat.reduceLeDiff, Nat.reduceAdd, Nat.reduceMul, Nat.reduceSub, Nat.reduceBEq, Int.reduceToNat, Int.reduceLE, Int.reduceLT, Int.reduceNeg, Nat.reduceMod, sid_ne1, sid_ne2, sid_inj, sid_mod, gT, TK.isInt, TK.agg, Array.toList, dec_self, dec_self2, bne_self_eq_false, beq_self_eq_true, bool_ne_self, dec_true, hS4d, zs0, zs4, zs5, zr4, zr22, zs7, zs8, zr7, hln4, ht4, hk1, hk2]
  all_goals first | done | exact (by kernel_rfl) | exact ⟨by kernel_rfl, trivial⟩ | trivial
end Go.Proofs.Ytnfpeinbdfmlnaa
