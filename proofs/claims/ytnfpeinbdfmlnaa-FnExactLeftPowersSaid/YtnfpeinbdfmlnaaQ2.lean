/- DERIVED by an AI agent. -/
import Derived.Test.YtnfpeinbdfmlnaaQ1
import Derived.Test.YtnfpeinbdfmlnaaP1
namespace Go.Proofs.Ytnfpeinbdfmlnaa
open Go.Abs
set_option linter.unusedSimpArgs false
set_option linter.unusedVariables false

theorem c_spec_l1Bit (b : Bool) : AC Try.prog 62 [bool b] (.im (int (if b = true then 1 else 0))) := by
  refine AC.go (rs := [.tmp 2]) T_ok mixed Try.func62 rfl rfl rfl (by kernel_rfl) fun hl => ?_
  simp (maxSteps := 5000000) -dsimp only [↓gp, gq, reduceCtorEq, Nat.reduceEqDiff, Nat.reduceLT, Nat.reduceLeDiff, Nat.reduceAdd, Nat.reduceMul, Nat.reduceSub, Nat.reduceBEq, Int.reduceToNat, Int.reduceLE, Int.reduceLT, Int.reduceNeg, Nat.reduceMod, sid_ne1, sid_ne2, sid_inj, sid_mod, gT, TK.isInt, TK.agg, Array.toList]
  exact ⟨fun h => by rw [if_pos h], fun h => by rw [if_neg (by rw [h]; decide)]⟩
/-- What no generator divides. -/
def freeP (x : Mat) (r : List Int) : Bool := x.all fun g => !div3 g r
noncomputable def leftS (x : Mat) (d : Int) : Int := if p19 x = true ∧ 0 ≤ d ∧ d ≤ 12 then (((fillL 2 d.toNat []).countP (freeP x) : Nat) : Int) else -1
theorem p19_ok {x : Mat} (h : p19 x = true) : (∀ k, k < x.length → ok19 x k) ∧ x.length ≤ 5 := by
  by_cases hh : (∀ k, k < x.length → ok19 x k) ∧ x.length ≤ 5
  · exact hh
  · rw [p19_not hh] at h; cases h
theorem fill2_len : ∀ D, D ≤ 12 → (fillL 2 D []).length ≤ 91 ∧ ∀ r ∈ fillL 2 D [], r.length = 3 := by
  have h : ((List.range 13).all fun D => decide ((fillL 2 D []).length ≤ 91) && (fillL 2 D []).all fun r => r.length == 3) = true := by decide +kernel
  intro D hD
  have := List.all_eq_true.1 h D (List.mem_range.2 (by omega))
  simp only [Bool.and_eq_true, decide_eq_true_eq, List.all_eq_true, beq_iff_eq] at this
  exact this
theorem c_spec_LeftPowers (x : Mat) (d : Int) : AC Try.prog 14 [.ag [int2 x], int d] (.im (int (leftS x d))) := by
  refine AC.go (rs := [.tmp 4]) T_ok mixed Try.func14 rfl rfl rfl (by kernel_rfl) fun hl => ?_
  simp only [lens_cons, lens_nil, and_true, lens2, List.mem_singleton, forall_eq, lens1_iLL] at hl
  simp (maxSteps := 5000000) -dsimp only [↓gp, gq, reduceCtorEq, Nat.reduceEqDiff, Nat.reduceLT, Nat.reduceLeDiff, Nat.reduceAdd, Nat.reduceMul, Nat.reduceSub, Nat.reduceBEq, Int.reduceToNat, Int.reduceLE, Int.reduceLT, Int.reduceNeg, Nat.reduceMod, sid_ne1, sid_ne2, sid_inj, sid_mod, gT, TK.isInt, TK.agg, Array.toList]
  refine askK_of (c_spec_ArePowers x) ?_
  simp (maxSteps := 5000000) -dsimp only [↓gp, gq, reduceCtorEq, Nat.reduceEqDiff, Nat.reduceLT, Nat.reduceLeDiff, Nat.reduceAdd, Nat.reduceMul, Nat.reduceSub, Nat.reduceBEq, Int.reduceToNat, Int.reduceLE, Int.reduceLT, Int.reduceNeg, Nat.reduceMod, sid_ne1, sid_ne2, sid_inj, sid_mod, gT, TK.isInt, TK.agg, Array.toList]
  refine ⟨fun hp => askK_of (c_spec_l1In _ _ _) ?_, fun hp => ?_⟩
  · simp (maxSteps := 5000000) -dsimp only [↓gp, gq, reduceCtorEq, Nat.reduceEqDiff, Nat.reduceLT, Nat.reduceLeDiff, Nat.reduceAdd, Nat.reduceMul, Nat.reduceSub, Nat.reduceBEq, Int.reduceToNat, Int.reduceLE, Int.reduceLT, Int.reduceNeg, Nat.reduceMod, sid_ne1, sid_ne2, sid_inj, sid_mod, gT, TK.isInt, TK.agg, Array.toList]
    refine ⟨fun h => ?_, fun h => ?_⟩
    · rw [leftS, if_neg]
      intro ⟨_, a, b⟩
      rw [decide_eq_true a, decide_eq_true b] at h; cases h
    · have hd : 0 ≤ d ∧ d ≤ 12 := by simpa using h
      obtain ⟨D, rfl⟩ : ∃ D : Nat, d = D := ⟨d.toNat, by omega⟩
      have hD : D ≤ 12 := by omega
      have hp1 : p19 x = true := by simpa using hp
      have hS0 : leftS x D = ((fillL 2 D []).countP (freeP x) : Nat) := by rw [leftS, if_pos ⟨hp1, hd⟩, Int.toNat_natCast]
      rw [hS0]
      obtain ⟨hA, hA3⟩ := fill2_len D hD
      have hx3 : ∀ k, k < x.length → (x.getD k []).length = 3 := fun k hk => isPow_3 ((p19_ok hp1).1 k hk).1
      have hc := c_l12Fill 2 D [] [] (by decide) (by omega) (by simp; omega)
      rw [List.nil_append] at hc
      generalize fillL 2 D [] = A at *
      refine askGrow_of (d := 21) (k := 20) (v := 1) (M := []) hc (fun j => j = 19) ?_ ⟨.inr ⟨rfl, by simp (maxSteps := 5000000) -dsimp only [gr, Nat.reduceEqDiff, Nat.reduceLT, Nat.reduceAdd, Nat.reduceMod, Nat.reduceBEq, sid_mod, sid_ne1, sid_ne2, sid_inj]⟩, rfl, fun j hj => absurd hj (by simp), fun j _ => by simp (maxSteps := 5000000) -dsimp only [gr, Nat.reduceEqDiff, Nat.reduceLT, Nat.reduceAdd, Nat.reduceMod, Nat.reduceBEq, sid_mod, sid_ne1, sid_ne2, sid_inj]⟩ (fun j hj => by subst hj; rfl) fun S v' hv hS hSd hSs hSr => ?_
      · exact .one (.v _) (.one (.v _) (.one (.lent (e := 3) (fz := false) rfl (by simp (maxSteps := 5000000) -dsimp only [gr, Nat.reduceEqDiff, Nat.reduceLT, Nat.reduceAdd, Nat.reduceMod, Nat.reduceBEq, sid_mod, sid_ne1, sid_ne2, sid_inj]; rfl)) (.one (gv_top (by simp (maxSteps := 5000000) -dsimp only [gr, Nat.reduceEqDiff, Nat.reduceLT, Nat.reduceAdd, Nat.reduceMod, Nat.reduceBEq, sid_mod, sid_ne1, sid_ne2, sid_inj])) .nil)))
      · have u1 : S.sl 1 = int D := by rw [hSs 1 (by decide)]; simp (maxSteps := 5000000) -dsimp only [gr, Nat.reduceEqDiff, Nat.reduceLT, Nat.reduceAdd, Nat.reduceMod, Nat.reduceBEq, sid_mod, sid_ne1, sid_ne2, sid_inj]
        have u2 : S.sl 2 = .ref 2 1 0 := by rw [hSs 2 (by decide)]; simp (maxSteps := 5000000) -dsimp only [gr, Nat.reduceEqDiff, Nat.reduceLT, Nat.reduceAdd, Nat.reduceMod, Nat.reduceBEq, sid_mod, sid_ne1, sid_ne2, sid_inj]
        have u5 : S.sl 5 = int 0 := by rw [hSs 5 (by decide)]; simp (maxSteps := 5000000) -dsimp only [gr, Nat.reduceEqDiff, Nat.reduceLT, Nat.reduceAdd, Nat.reduceMod, Nat.reduceBEq, sid_mod, sid_ne1, sid_ne2, sid_inj]
        have w2 : S.rw 2 = ⟨1, .box 27 [int2 x]⟩ := by rw [hSr 2 (by decide)]; simp (maxSteps := 5000000) -dsimp only [gr, Nat.reduceEqDiff, Nat.reduceLT, Nat.reduceAdd, Nat.reduceMod, Nat.reduceBEq, sid_mod, sid_ne1, sid_ne2, sid_inj]
        clear hSs hSr
        simp (maxSteps := 5000000) -dsimp only [↓gp, gq, reduceCtorEq, Nat.reduceEqDiff, Nat.reduceLT, Nat.reduceLeDiff, Nat.reduceAdd, Nat.reduceMul, Nat.reduceSub, Nat.reduceBEq, Int.reduceToNat, Int.reduceLE, Int.reduceLT, Int.reduceNeg, Nat.reduceMod, sid_ne1, sid_ne2, sid_inj, sid_mod, gT, TK.isInt, TK.agg, Array.toList, hSd, u1, u2, u5, w2]
        have hz : (((A.take 0).countP (freeP x) : Nat) : Int) = 0 := rfl
        refine loop_of (fun (k : Nat) s => s.sl 2 = .ref 2 1 0 ∧ s.rw 2 = ⟨1, .box 27 [int2 x]⟩ ∧ s.sl 5 = int ((A.take k).countP (freeP x) : Nat) ∧ s.sl 6 = .own 20 v' ∧ s.sl 7 = int k ∧ (k ≤ A.length ∧ TabG s.rw 20 v' 31 3 A.length A)) (fun k => A.length - k) (0) (by refine ⟨?_, ?_, ?_, ?_, ?_, ⟨by omega, hS.same (by simp (maxSteps := 5000000) -dsimp only [gr, Nat.reduceEqDiff, Nat.reduceLT, Nat.reduceAdd, Nat.reduceMod, Nat.reduceBEq, sid_mod, sid_ne1, sid_ne2, sid_inj]) (fun x => by simp (maxSteps := 5000000) -dsimp only [gr, Nat.reduceEqDiff, Nat.reduceLT, Nat.reduceAdd, Nat.reduceMod, Nat.reduceBEq, sid_mod, sid_ne1, sid_ne2, sid_inj])⟩⟩ <;> (first | (simp (maxSteps := 5000000) -dsimp only [gr, Nat.reduceEqDiff, Nat.reduceLT, Nat.reduceAdd, Nat.reduceMod, Nat.reduceBEq, sid_mod, sid_ne1, sid_ne2, sid_inj, u2, u5, w2, hz]; first | done | rfl | (simp; done)) | assumption | rfl)) ?_
        intro k sa ⟨h2a, r2a, h5a, h6a, h7a, hIa⟩
        obtain ⟨hk, hta⟩ := hIa
        simp (maxSteps := 5000000) -dsimp only [↓gp, gq, reduceCtorEq, Nat.reduceEqDiff, Nat.reduceLT, Nat.reduceLeDiff, Nat.reduceAdd, Nat.reduceMul, Nat.reduceSub, Nat.reduceBEq, Int.reduceToNat, Int.reduceLE, Int.reduceLT, Int.reduceNeg, Nat.reduceMod, sid_ne1, sid_ne2, sid_inj, sid_mod, gT, TK.isInt, TK.agg, Array.toList, h2a, r2a, h5a, h6a, h7a, hta.top, cellsT_length, List.length_range]
        refine ⟨fun h => ?_, fun h => ?_⟩
        · have hkl : k < A.length := by omega
          refine loop_of (fun (i : Nat) s => s.sl 2 = .ref 2 1 0 ∧ s.rw 2 = ⟨1, .box 27 [int2 x]⟩ ∧ s.sl 5 = int ((A.take k).countP (freeP x) : Nat) ∧ s.sl 6 = .own 20 v' ∧ s.sl 7 = int k ∧ s.sl 8 = bool ((x.take i).all fun g => !div3 g (A.getD k [])) ∧ s.sl 9 = int i ∧ (i ≤ x.length ∧ TabG s.rw 20 v' 31 3 A.length A)) (fun i => x.length - i) (0) (by refine ⟨?_, ?_, ?_, ?_, ?_, ?_, ?_, ⟨by omega, hta.same (by simp (maxSteps := 5000000) -dsimp only [gr, Nat.reduceEqDiff, Nat.reduceLT, Nat.reduceAdd, Nat.reduceMod, Nat.reduceBEq, sid_mod, sid_ne1, sid_ne2, sid_inj]) (fun x => by simp (maxSteps := 5000000) -dsimp only [gr, Nat.reduceEqDiff, Nat.reduceLT, Nat.reduceAdd, Nat.reduceMod, Nat.reduceBEq, sid_mod, sid_ne1, sid_ne2, sid_inj])⟩⟩ <;> (first | (simp (maxSteps := 5000000) -dsimp only [gr, Nat.reduceEqDiff, Nat.reduceLT, Nat.reduceAdd, Nat.reduceMod, Nat.reduceBEq, sid_mod, sid_ne1, sid_ne2, sid_inj, h2a, r2a, h5a, h6a, h7a, List.take_zero, List.all_nil]; first | done | rfl | (simp; done)) | assumption | rfl)) ?_
          intro i sb ⟨h2b, r2b, h5b, h6b, h7b, h8b, h9b, hIb⟩
          obtain ⟨hi, htb⟩ := hIb
          have hr := htb.row k hkl
          simp (maxSteps := 5000000) -dsimp only [↓gp, gq, reduceCtorEq, Nat.reduceEqDiff, Nat.reduceLT, Nat.reduceLeDiff, Nat.reduceAdd, Nat.reduceMul, Nat.reduceSub, Nat.reduceBEq, Int.reduceToNat, Int.reduceLE, Int.reduceLT, Int.reduceNeg, Nat.reduceMod, sid_ne1, sid_ne2, sid_inj, sid_mod, gT, TK.isInt, TK.agg, Array.toList, h2b, r2b, h5b, h6b, h7b, h8b, h9b, htb.top, ld_cellsT, List.length_range, rangeG hkl, hr]
          have hrl : (A.getD k []).length = 3 := hA3 _ (getD_mem [] hkl)
          refine ⟨fun h1 => ⟨by kernel_rfl, fun h2 => ⟨h1, h1, hkl, hkl, askK_of (c_spec_l35Divides _ _ (by rw [hx3 i h1]; decide) (by rw [hrl]; decide)) ?_⟩, fun h2 => ?_⟩, fun h1 => ?_⟩
          · simp (maxSteps := 5000000) -dsimp only [↓gp, gq, reduceCtorEq, Nat.reduceEqDiff, Nat.reduceLT, Nat.reduceLeDiff, Nat.reduceAdd, Nat.reduceMul, Nat.reduceSub, Nat.reduceBEq, Int.reduceToNat, Int.reduceLE, Int.reduceLT, Int.reduceNeg, Nat.reduceMod, sid_ne1, sid_ne2, sid_inj, sid_mod, gT, TK.isInt, TK.agg, Array.toList, h2b, r2b, h5b, h6b, h7b, h8b, h9b, htb.top, ld_cellsT, List.length_range, rangeG hkl, hr, h2]
            have e : ((x.take (i + 1)).all fun g => !div3 g (A.getD k [])) = !div3 (x.getD i []) (A.getD k []) := by rw [take_snoc [] h1, List.all_append, h2]; simp
            exact again_of (i + 1) (by refine ⟨?_, ?_, ?_, ?_, ?_, ?_, ?_, ⟨by omega, htb.same (by simp (maxSteps := 5000000) -dsimp only [gr, Nat.reduceEqDiff, Nat.reduceLT, Nat.reduceAdd, Nat.reduceMod, Nat.reduceBEq, sid_mod, sid_ne1, sid_ne2, sid_inj]) (fun x => by simp (maxSteps := 5000000) -dsimp only [gr, Nat.reduceEqDiff, Nat.reduceLT, Nat.reduceAdd, Nat.reduceMod, Nat.reduceBEq, sid_mod, sid_ne1, sid_ne2, sid_inj])⟩⟩ <;> (first | (simp (maxSteps := 5000000) -dsimp only [gr, Nat.reduceEqDiff, Nat.reduceLT, Nat.reduceAdd, Nat.reduceMod, Nat.reduceBEq, sid_mod, sid_ne1, sid_ne2, sid_inj, h2b, r2b, h5b, h6b, h7b, h8b, h9b, e, wrap_nat h1 hl.1]; first | done | rfl | (simp; done)) | assumption | rfl)) (by first | omega | (simp only; omega) | (dsimp only; omega) | (show _ < _; simp; omega))
          · have e : ((x.take (i + 1)).all fun g => !div3 g (A.getD k [])) = false := by rw [take_snoc [] h1, List.all_append, h2]; simp
            exact again_of (i + 1) (by refine ⟨?_, ?_, ?_, ?_, ?_, ?_, ?_, ⟨by omega, htb.same (by simp (maxSteps := 5000000) -dsimp only [gr, Nat.reduceEqDiff, Nat.reduceLT, Nat.reduceAdd, Nat.reduceMod, Nat.reduceBEq, sid_mod, sid_ne1, sid_ne2, sid_inj]) (fun x => by simp (maxSteps := 5000000) -dsimp only [gr, Nat.reduceEqDiff, Nat.reduceLT, Nat.reduceAdd, Nat.reduceMod, Nat.reduceBEq, sid_mod, sid_ne1, sid_ne2, sid_inj])⟩⟩ <;> (first | (simp (maxSteps := 5000000) -dsimp only [gr, Nat.reduceEqDiff, Nat.reduceLT, Nat.reduceAdd, Nat.reduceMod, Nat.reduceBEq, sid_mod, sid_ne1, sid_ne2, sid_inj, h2b, r2b, h5b, h6b, h7b, h8b, h9b, e, wrap_nat h1 hl.1, h2]; first | done | rfl | (simp; done)) | assumption | rfl)) (by first | omega | (simp only; omega) | (dsimp only; omega) | (show _ < _; simp; omega))
          · have hil : i = x.length := by omega
            refine askK_of (c_spec_l1Bit _) ?_
            simp (maxSteps := 5000000) -dsimp only [↓gp, gq, reduceCtorEq, Nat.reduceEqDiff, Nat.reduceLT, Nat.reduceLeDiff, Nat.reduceAdd, Nat.reduceMul, Nat.reduceSub, Nat.reduceBEq, Int.reduceToNat, Int.reduceLE, Int.reduceLT, Int.reduceNeg, Nat.reduceMod, sid_ne1, sid_ne2, sid_inj, sid_mod, gT, TK.isInt, TK.agg, Array.toList, h2b, r2b, h5b, h6b, h7b, h8b, h9b, htb.top]
            have hcl : (A.take k).countP (freeP x) ≤ 91 := Nat.le_trans List.countP_le_length (by simp; omega)
            have e : IntKind.i64.wrap ((((A.take k).countP (freeP x) : Nat) : Int) + (if ((x.take i).all fun g => !div3 g (A.getD k [])) = true then 1 else 0)) = (((A.take (k + 1)).countP (freeP x) : Nat) : Int) := by
              rw [wrap_id (by split <;> omega) (by split <;> omega), take_snoc [] hkl, List.countP_append, hil, List.take_length]
              have : ((x.all fun g => !div3 g (A.getD k [])) = true) = (freeP x (A.getD k []) = true) := rfl
              rw [List.countP_singleton]
              simp only [this]
              split <;> simp
            exact again_of (k + 1) (by refine ⟨?_, ?_, ?_, ?_, ?_, ⟨by omega, htb.same (by simp (maxSteps := 5000000) -dsimp only [gr, Nat.reduceEqDiff, Nat.reduceLT, Nat.reduceAdd, Nat.reduceMod, Nat.reduceBEq, sid_mod, sid_ne1, sid_ne2, sid_inj]) (fun x => by simp (maxSteps := 5000000) -dsimp only [gr, Nat.reduceEqDiff, Nat.reduceLT, Nat.reduceAdd, Nat.reduceMod, Nat.reduceBEq, sid_mod, sid_ne1, sid_ne2, sid_inj])⟩⟩ <;> (first | (simp (maxSteps := 5000000) -dsimp only [gr, Nat.reduceEqDiff, Nat.reduceLT, Nat.reduceAdd, Nat.reduceMod, Nat.reduceBEq, sid_mod, sid_ne1, sid_ne2, sid_inj, h2a, r2a, h5a, h6a, h7a, h2b, r2b, h5b, h6b, h7b, h8b, h9b, e, wrap_nat hkl (show A.length ≤ 9223372036854775807 by omega)]; first | done | rfl | (simp; done)) | assumption | rfl)) (by first | omega | (simp only; omega) | (dsimp only; omega) | (show _ < _; simp; omega))
        · have : k = A.length := by omega
          rw [this, List.take_length]
  · rw [leftS, if_neg]
    intro ⟨a, _⟩
    rw [a] at hp; cases hp
/-- All exponents of a sum, in the program's order. -/
def expR (D x : Nat) (n : Nat) : Mat := (List.range n).map fun (y : Nat) => [(x : Int), (y : Int), ((D - x - y : Nat) : Int)]
def expX (D x : Nat) : Mat := (List.range x).flatMap fun x => expR D x (D - x + 1)
theorem exp_perm : ∀ D, D ≤ 12 → (expX D (D + 1)).Perm (fillL 2 D []) := by
  have h : ((List.range 13).all fun D => (expX D (D + 1)).isPerm (fillL 2 D [])) = true := by decide +kernel
  intro D hD
  exact List.isPerm_iff.1 (List.all_eq_true.1 h D (List.mem_range.2 (by omega)))
theorem expX_succ (D x : Nat) : expX D (x + 1) = expX D x ++ expR D x (D - x + 1) := by unfold expX; rw [List.range_succ, List.flatMap_append]; simp
theorem expR_succ (D x n : Nat) : expR D x (n + 1) = expR D x n ++ [[(x : Int), (n : Int), ((D - x - n : Nat) : Int)]] := by unfold expR; rw [List.range_succ, List.map_append]; rfl
theorem expX_le : ∀ D, D ≤ 12 → ∀ x, x ≤ 13 → (expX D x).length ≤ 200 := by
  have h : ((List.range 13).all fun D => (List.range 14).all fun x => decide ((expX D x).length ≤ 200)) = true := by decide +kernel
  intro D hD x hx
  have := List.all_eq_true.1 (List.all_eq_true.1 h D (List.mem_range.2 (by omega))) x (List.mem_range.2 (by omega))
  simpa using this
theorem c_impl_LeftPowers (x : Mat) (d : Int) : AC Try.prog 16 [.ag [int2 x], int d] (.im (int (leftS x d))) := by
  refine AC.go (rs := [.tmp 4]) T_ok mixed Try.func16 rfl rfl rfl (by kernel_rfl) fun hl => ?_
  simp only [lens_cons, lens_nil, and_true, lens2, List.mem_singleton, forall_eq, lens1_iLL] at hl
  simp (maxSteps := 5000000) -dsimp only [↓gp, gq, reduceCtorEq, Nat.reduceEqDiff, Nat.reduceLT, Nat.reduceLeDiff, Nat.reduceAdd, Nat.reduceMul, Nat.reduceSub, Nat.reduceBEq, Int.reduceToNat, Int.reduceLE, Int.reduceLT, Int.reduceNeg, Nat.reduceMod, sid_ne1, sid_ne2, sid_inj, sid_mod, gT, TK.isInt, TK.agg, Array.toList]
  refine askK_of (c_impl_ArePowers x) ?_
  rw [← p19_21]
  have hno : ¬ (p19 x = true ∧ 0 ≤ d ∧ d ≤ 12) → leftS x d = -1 := fun h => if_neg h
  simp (maxSteps := 5000000) -dsimp only [↓gp, gq, reduceCtorEq, Nat.reduceEqDiff, Nat.reduceLT, Nat.reduceLeDiff, Nat.reduceAdd, Nat.reduceMul, Nat.reduceSub, Nat.reduceBEq, Int.reduceToNat, Int.reduceLE, Int.reduceLT, Int.reduceNeg, Nat.reduceMod, sid_ne1, sid_ne2, sid_inj, sid_mod, gT, TK.isInt, TK.agg, Array.toList]
  refine ⟨fun hp => ⟨fun h0 => ⟨fun h1 => hno fun h => by omega, fun h1 => ?_⟩, fun h0 => hno fun h => by omega⟩, fun hp => hno fun h => by rw [h.1] at hp; cases hp⟩
  have hp1 : p19 x = true := by simpa using hp
  obtain ⟨D, rfl⟩ : ∃ D : Nat, d = D := ⟨d.toNat, by omega⟩
  have hD : D ≤ 12 := by omega
  have hx3 : ∀ k, k < x.length → (x.getD k []).length = 3 := fun k hk => isPow_3 ((p19_ok hp1).1 k hk).1
  have hS0 : leftS x D = ((expX D (D + 1)).countP (freeP x) : Nat) := by rw [leftS, if_pos ⟨hp1, by omega, by omega⟩, Int.toNat_natCast, (exp_perm D hD).countP_eq]
  have hz : (((expX D 0).countP (freeP x) : Nat) : Int) = 0 := rfl
  refine loop_of (fun (u : Nat) s => s.sl 1 = int D ∧ s.sl 2 = .ref 2 1 0 ∧ s.rw 2 = ⟨1, .box 27 [int2 x]⟩ ∧ s.sl 5 = int ((expX D u).countP (freeP x) : Nat) ∧ s.sl 6 = int u ∧ (u ≤ D + 1)) (fun u => D + 1 - u) (0) (by refine ⟨?_, ?_, ?_, ?_, ?_, by omega⟩ <;> (first | (simp (maxSteps := 5000000) -dsimp only [gr, Nat.reduceEqDiff, Nat.reduceLT, Nat.reduceAdd, Nat.reduceMod, Nat.reduceBEq, sid_mod, sid_ne1, sid_ne2, sid_inj, hz]; first | done | rfl | (simp; done)) | assumption | rfl)) ?_
  intro u sa ⟨h1a, h2a, r2a, h5a, h6a, hIa⟩
  have hcx := Nat.le_trans (List.countP_le_length (l := expX D u) (p := freeP x)) (expX_le D hD u (by omega))
  by_cases hu : u ≤ D
  · simp (maxSteps := 5000000) -dsimp only [↓gp, gq, reduceCtorEq, Nat.reduceEqDiff, Nat.reduceLT, Nat.reduceLeDiff, Nat.reduceAdd, Nat.reduceMul, Nat.reduceSub, Nat.reduceBEq, Int.reduceToNat, Int.reduceLE, Int.reduceLT, Int.reduceNeg, Nat.reduceMod, sid_ne1, sid_ne2, sid_inj, sid_mod, gT, TK.isInt, TK.agg, Array.toList, h1a, h2a, r2a, h5a, h6a]
    refine ⟨fun _ => ?_, fun h => absurd h (by omega)⟩
    refine loop_of (fun (v : Nat) s => s.sl 1 = int D ∧ s.sl 2 = .ref 2 1 0 ∧ s.rw 2 = ⟨1, .box 27 [int2 x]⟩ ∧ s.sl 5 = int ((expX D u ++ expR D u v).countP (freeP x) : Nat) ∧ s.sl 6 = int u ∧ s.sl 7 = int v ∧ (v ≤ D - u + 1)) (fun v => D - u + 1 - v) (0) (by refine ⟨?_, ?_, ?_, ?_, ?_, ?_, by omega⟩ <;> (first | (simp (maxSteps := 5000000) -dsimp only [gr, Nat.reduceEqDiff, Nat.reduceLT, Nat.reduceAdd, Nat.reduceMod, Nat.reduceBEq, sid_mod, sid_ne1, sid_ne2, sid_inj, h1a, h2a, r2a, h5a, h6a, expR, List.range_zero, List.map_nil, List.append_nil]; first | done | rfl | (simp; done)) | assumption | rfl)) ?_
    intro v sb ⟨h1b, h2b, r2b, h5b, h6b, h7b, hIb⟩
    have hw1 : IntKind.i64.wrap ((u : Int) + (v : Int)) = ((u + v : Nat) : Int) := by rw [wrap_id (by omega) (by omega)]; omega
    have hw2 : IntKind.i64.wrap ((D : Int) - (u : Int)) = ((D - u : Nat) : Int) := by rw [wrap_id (by omega) (by omega)]; omega
    by_cases hv : v ≤ D - u
    · have hw3 : IntKind.i64.wrap (((D - u : Nat) : Int) - (v : Int)) = ((D - u - v : Nat) : Int) := by rw [wrap_id (by omega) (by omega)]; omega
      simp (maxSteps := 5000000) -dsimp only [↓gp, gq, reduceCtorEq, Nat.reduceEqDiff, Nat.reduceLT, Nat.reduceLeDiff, Nat.reduceAdd, Nat.reduceMul, Nat.reduceSub, Nat.reduceBEq, Int.reduceToNat, Int.reduceLE, Int.reduceLT, Int.reduceNeg, Nat.reduceMod, sid_ne1, sid_ne2, sid_inj, sid_mod, gT, TK.isInt, TK.agg, Array.toList, h1b, h2b, r2b, h5b, h6b, h7b, hw1, hw2, hw3]
      refine ⟨fun _ => ?_, fun h => absurd (by omega) h⟩
      refine loop_of (fun (i : Nat) s => s.sl 1 = int D ∧ s.sl 2 = .ref 2 1 0 ∧ s.rw 2 = ⟨1, .box 27 [int2 x]⟩ ∧ s.sl 5 = int ((expX D u ++ expR D u v).countP (freeP x) : Nat) ∧ s.sl 6 = int u ∧ s.sl 7 = int v ∧ s.sl 8 = .own 42 ((sb.rw 42).ver + 1) ∧ s.rw 42 = ⟨(sb.rw 42).ver + 1, .sli 3 1 false (iL [(u : Int), (v : Int), ((D - u - v : Nat) : Int)])⟩ ∧ s.sl 9 = bool ((x.take i).all fun g => !div3 g [(u : Int), (v : Int), ((D - u - v : Nat) : Int)]) ∧ s.sl 44 = int2 x ∧ s.sl 45 = int x.length ∧ s.sl 46 = int i ∧ (i ≤ x.length)) (fun i => x.length - i) (0) (by refine ⟨?_, ?_, ?_, ?_, ?_, ?_, ?_, ?_, ?_, ?_, ?_, ?_, by omega⟩ <;> (first | (simp (maxSteps := 5000000) -dsimp only [gr, Nat.reduceEqDiff, Nat.reduceLT, Nat.reduceAdd, Nat.reduceMod, Nat.reduceBEq, sid_mod, sid_ne1, sid_ne2, sid_inj, h1b, h2b, r2b, h5b, h6b, h7b, List.take_zero, List.all_nil]; first | done | rfl | (simp; done)) | assumption | rfl)) ?_
      intro i sc ⟨h1c, h2c, r2c, h5c, h6c, h7c, h8c, r42c, h9c, h44c, h45c, h46c, hIc⟩
      simp (maxSteps := 5000000) -dsimp only [↓gp, gq, reduceCtorEq, Nat.reduceEqDiff, Nat.reduceLT, Nat.reduceLeDiff, Nat.reduceAdd, Nat.reduceMul, Nat.reduceSub, Nat.reduceBEq, Int.reduceToNat, Int.reduceLE, Int.reduceLT, Int.reduceNeg, Nat.reduceMod, sid_ne1, sid_ne2, sid_inj, sid_mod, gT, TK.isInt, TK.agg, Array.toList, h1c, h2c, r2c, h5c, h6c, h7c, h8c, r42c, h9c, h44c, h45c, h46c]
      refine ⟨fun h1 => ⟨h1, h1, askK_of (c_impl_divides _ _ (by rw [hx3 i h1]; exact Nat.le_refl _)) ?_⟩, fun h1 => ?_⟩
      · simp (maxSteps := 5000000) -dsimp only [↓gp, gq, reduceCtorEq, Nat.reduceEqDiff, Nat.reduceLT, Nat.reduceLeDiff, Nat.reduceAdd, Nat.reduceMul, Nat.reduceSub, Nat.reduceBEq, Int.reduceToNat, Int.reduceLE, Int.reduceLT, Int.reduceNeg, Nat.reduceMod, sid_ne1, sid_ne2, sid_inj, sid_mod, gT, TK.isInt, TK.agg, Array.toList, h1c, h2c, r2c, h5c, h6c, h7c, h8c, r42c, h9c, h44c, h45c, h46c]
        rw [div_3 (hx3 i h1)]
        have e0 : ((x.take (i + 1)).all fun g => !div3 g [(u : Int), (v : Int), ((D - u - v : Nat) : Int)]) = (((x.take i).all fun g => !div3 g [(u : Int), (v : Int), ((D - u - v : Nat) : Int)]) && !div3 (x.getD i []) [(u : Int), (v : Int), ((D - u - v : Nat) : Int)]) := by rw [take_snoc [] h1, List.all_append]; simp
        refine ⟨fun hq => ?_, fun hq => ?_⟩
        · rw [hq, Bool.not_true, Bool.and_false] at e0
          exact again_of (i + 1) (by refine ⟨?_, ?_, ?_, ?_, ?_, ?_, ?_, ?_, ?_, ?_, ?_, ?_, by omega⟩ <;> (first | (simp (maxSteps := 5000000) -dsimp only [gr, Nat.reduceEqDiff, Nat.reduceLT, Nat.reduceAdd, Nat.reduceMod, Nat.reduceBEq, sid_mod, sid_ne1, sid_ne2, sid_inj, h1c, h2c, r2c, h5c, h6c, h7c, h8c, r42c, h9c, h44c, h45c, h46c, e0, wrap_nat h1 hl.1]; first | done | rfl | (simp; done)) | assumption | rfl)) (by first | omega | (simp only; omega) | (dsimp only; omega) | (show _ < _; simp; omega))
        · rw [hq, Bool.not_false, Bool.and_true] at e0
          exact again_of (i + 1) (by refine ⟨?_, ?_, ?_, ?_, ?_, ?_, ?_, ?_, ?_, ?_, ?_, ?_, by omega⟩ <;> (first | (simp (maxSteps := 5000000) -dsimp only [gr, Nat.reduceEqDiff, Nat.reduceLT, Nat.reduceAdd, Nat.reduceMod, Nat.reduceBEq, sid_mod, sid_ne1, sid_ne2, sid_inj, h1c, h2c, r2c, h5c, h6c, h7c, h8c, r42c, h9c, h44c, h45c, h46c, e0, wrap_nat h1 hl.1]; first | done | rfl | (simp; done)) | assumption | rfl)) (by first | omega | (simp only; omega) | (dsimp only; omega) | (show _ < _; simp; omega))
      · have hi : i = x.length := by omega
        have hxs := Nat.le_trans (List.countP_le_length (l := expX D u ++ expR D u v) (p := freeP x)) (Nat.le_refl _)
        have hxl := expX_le D hD u (by omega)
        have hrl : (expR D u v).length = v := by simp [expR]
        rw [List.length_append, hrl] at hxs
        have e0 : (((expX D u ++ expR D u (v + 1)).countP (freeP x) : Nat) : Int) = (((expX D u ++ expR D u v).countP (freeP x) : Nat) : Int) + (if ((x.take i).all fun g => !div3 g [(u : Int), (v : Int), ((D - u - v : Nat) : Int)]) = true then 1 else 0) := by
          rw [expR_succ, ← List.append_assoc, List.countP_append, List.countP_singleton, hi, List.take_length]
          have : ((x.all fun g => !div3 g [(u : Int), (v : Int), ((D - u - v : Nat) : Int)]) = true) = (freeP x [(u : Int), (v : Int), ((D - u - v : Nat) : Int)] = true) := rfl
          simp only [this]
          split <;> simp
        refine ⟨fun hq => ?_, fun hq => ?_⟩
        · rw [if_pos hq] at e0
          have hw : IntKind.i64.wrap ((((expX D u ++ expR D u v).countP (freeP x) : Nat) : Int) + 1) = (((expX D u ++ expR D u (v + 1)).countP (freeP x) : Nat) : Int) := by rw [e0, wrap_id (by omega) (by omega)]
          exact again_of (v + 1) (by refine ⟨?_, ?_, ?_, ?_, ?_, ?_, by omega⟩ <;> (first | (simp (maxSteps := 5000000) -dsimp only [gr, Nat.reduceEqDiff, Nat.reduceLT, Nat.reduceAdd, Nat.reduceMod, Nat.reduceBEq, sid_mod, sid_ne1, sid_ne2, sid_inj, h1b, h2b, r2b, h5b, h6b, h7b, h1c, h2c, r2c, h5c, h6c, h7c, h8c, r42c, h9c, h44c, h45c, h46c, hw, wrap_nat (show v < D - u + 1 by omega) (by omega)]; first | done | rfl | (simp; done)) | assumption | rfl)) (by first | omega | (simp only; omega) | (dsimp only; omega) | (show _ < _; simp; omega))
        · rw [if_neg (by rw [hq]; decide), Int.add_zero] at e0
          exact again_of (v + 1) (by refine ⟨?_, ?_, ?_, ?_, ?_, ?_, by omega⟩ <;> (first | (simp (maxSteps := 5000000) -dsimp only [gr, Nat.reduceEqDiff, Nat.reduceLT, Nat.reduceAdd, Nat.reduceMod, Nat.reduceBEq, sid_mod, sid_ne1, sid_ne2, sid_inj, h1b, h2b, r2b, h5b, h6b, h7b, h1c, h2c, r2c, h5c, h6c, h7c, h8c, r42c, h9c, h44c, h45c, h46c, e0, wrap_nat (show v < D - u + 1 by omega) (by omega)]; first | done | rfl | (simp; done)) | assumption | rfl)) (by first | omega | (simp only; omega) | (dsimp only; omega) | (show _ < _; simp; omega))
    · have hv2 : v = D - u + 1 := by omega
      subst hv2
      have e0 := expX_succ D u
      simp (maxSteps := 5000000) -dsimp only [↓gp, gq, reduceCtorEq, Nat.reduceEqDiff, Nat.reduceLT, Nat.reduceLeDiff, Nat.reduceAdd, Nat.reduceMul, Nat.reduceSub, Nat.reduceBEq, Int.reduceToNat, Int.reduceLE, Int.reduceLT, Int.reduceNeg, Nat.reduceMod, sid_ne1, sid_ne2, sid_inj, sid_mod, gT, TK.isInt, TK.agg, Array.toList, h1b, h2b, r2b, h5b, h6b, h7b, hw1, hw2]
      exact ⟨fun h => absurd h (by omega), fun _ => again_of (u + 1) (by refine ⟨?_, ?_, ?_, ?_, ?_, by omega⟩ <;> (first | (simp (maxSteps := 5000000) -dsimp only [gr, Nat.reduceEqDiff, Nat.reduceLT, Nat.reduceAdd, Nat.reduceMod, Nat.reduceBEq, sid_mod, sid_ne1, sid_ne2, sid_inj, h1a, h2a, r2a, h5a, h6a, h1b, h2b, r2b, h5b, h6b, h7b, e0, wrap_nat (show u < D + 1 by omega) (by omega)]; first | done | rfl | (simp; done)) | assumption | rfl)) (by first | omega | (simp only; omega) | (dsimp only; omega) | (show _ < _; simp; omega))⟩
  · have hu2 : u = D + 1 := by omega
    subst hu2
    simp (maxSteps := 5000000) -dsimp only [↓gp, gq, reduceCtorEq, Nat.reduceEqDiff, Nat.reduceLT, Nat.reduceLeDiff, Nat.reduceAdd, Nat.reduceMul, Nat.reduceSub, Nat.reduceBEq, Int.reduceToNat, Int.reduceLE, Int.reduceLT, Int.reduceNeg, Nat.reduceMod, sid_ne1, sid_ne2, sid_inj, sid_mod, gT, TK.isInt, TK.agg, Array.toList, h1a, h2a, r2a, h5a, h6a]
    exact ⟨fun h => absurd h (by omega), fun _ => hS0⟩
end Go.Proofs.Ytnfpeinbdfmlnaa
