/- DERIVED by an AI agent. -/
import Derived.Test.YtnfpeinbdfmlnaaQ4
import Derived.Test.YtnfpeinbdfmlnaaP1
import Derived.Test.YtnfpeinbdfmlnaaQ2
import Derived.Test.YtnfpeinbdfmlnaaA12
import Derived.Test.YtnfpeinbdfmlnaaQ1
import Derived.Test.YtnfpeinbdfmlnaaA14
namespace Go.Proofs.Ytnfpeinbdfmlnaa
open Go.Abs
set_option linter.unusedSimpArgs false
set_option linter.unusedVariables false

noncomputable def rkL (f : Nat → Bool) (p : Int) (k : Nat) : List Int := (List.range (dimN f + 1)).map fun j => if j < k then (rkF f p j : Int) else 0
theorem rkL_length (f : Nat → Bool) (p : Int) (k : Nat) : (rkL f p k).length = dimN f + 1 := by simp [rkL]
theorem rkL_getD (f : Nat → Bool) (p : Int) {k j : Nat} (h : j < dimN f + 1) : (rkL f p k).getD j 0 = if j < k then (rkF f p j : Int) else 0 := by simp [rkL, List.getD, h]
theorem rkL_one (f : Nat → Bool) (p : Int) : List.replicate (dimN f + 1) 0 = rkL f p 1 := by
  refine List.ext_getElem (by simp [rkL]) fun j a b => ?_
  simp only [List.getElem_replicate, rkL, List.getElem_map, List.getElem_range]
  split
  · have : j = 0 := by omega
    subst this; simp [rkF]
  · rfl
theorem rkL_set (f : Nat → Bool) (p : Int) {k : Nat} (h : k < dimN f) : (rkL f p k).set k (rkF f p k) = rkL f p (k + 1) := by
  refine List.ext_getElem (by simp [rkL]) fun j a b => ?_
  rw [List.getElem_set]
  simp only [rkL, List.getElem_map, List.getElem_range]
  by_cases e : k = j
  · subst e; simp
  · rw [if_neg e]
    by_cases h1 : j < k
    · rw [if_pos h1, if_pos (by omega)]
    · rw [if_neg h1, if_neg (by omega)]
theorem c_impl_holesIn (f : Nat → Bool) (p : Int) (hp : isP p = true) : AC Try.prog 89 [u64 (maskF f 64 : Nat), int p] (.fr 3 1 (iL (holF f p))) := by
  refine AC.go (rs := [.tmp 4]) T_ok mixed Try.func89 rfl rfl rfl (by kernel_rfl) fun hl => ?_
  have hd := dimN_le f
  have hsl := sizesL_length f
  simp (maxSteps := 5000000) -dsimp only [↓gp, gq, reduceCtorEq, Nat.reduceEqDiff, Nat.reduceLT, Nat.reduceLeDiff, Nat.reduceAdd, Nat.reduceMul, Nat.reduceSub, Nat.reduceBEq, Int.reduceToNat, Int.reduceLE, Int.reduceLT, Int.reduceNeg, Nat.reduceMod, sid_ne1, sid_ne2, sid_inj, sid_mod, gT, TK.isInt, TK.agg, Array.toList]
  refine askK_of (c_impl_bySize f) ?_
  have hw : IntKind.i64.wrap ((dimN f : Int) + 1) = ((dimN f + 1 : Nat) : Int) := by rw [wrap_id (by omega) (by omega)]; rfl
  simp (maxSteps := 5000000) -dsimp only [↓gp, gq, reduceCtorEq, Nat.reduceEqDiff, Nat.reduceLT, Nat.reduceLeDiff, Nat.reduceAdd, Nat.reduceMul, Nat.reduceSub, Nat.reduceBEq, Int.reduceToNat, Int.reduceLE, Int.reduceLT, Int.reduceNeg, Nat.reduceMod, sid_ne1, sid_ne2, sid_inj, sid_mod, gT, TK.isInt, TK.agg, Array.toList, hsl, hw]
  refine ⟨by omega, by omega, ?_⟩
  refine loop_of (fun (za : Nat × Nat × Nat) s => match za with | (k, v, w) => s.sl 1 = int p ∧ s.sl 5 = .own 11 v ∧ s.rw 11 = ⟨v, .sli 31 1 false (iLL (sizesL f))⟩ ∧ s.sl 6 = .own 15 w ∧ s.rw 15 = ⟨w, .sli 3 1 false (iL (rkL f p k))⟩ ∧ s.sl 7 = int k ∧ (1 ≤ k ∧ k ≤ dimN f + 1 ∧ (k ≤ dimN f ∨ dimN f = 0))) (fun (k, v, w) => dimN f + 1 - k) ((1, 1, 1)) (by refine ⟨?_, ?_, ?_, ?_, ?_, ?_, by simp; omega⟩ <;> (first | (simp (maxSteps := 5000000) -dsimp only [gr, Nat.reduceEqDiff, Nat.reduceLT, Nat.reduceAdd, Nat.reduceMod, Nat.reduceBEq, sid_mod, sid_ne1, sid_ne2, sid_inj, hsl, hw, rkL_one f p, iL_replicate]; first | done | rfl | (simp; done)) | assumption | rfl)) ?_
  intro (k, v, w) sa ⟨h1a, h5a, r11a, h6a, r15a, h7a, hIa⟩
  obtain ⟨hk1, hk2, hk3⟩ := hIa
  have hrl := rkL_length f p k
  simp (maxSteps := 5000000) -dsimp only [↓gp, gq, reduceCtorEq, Nat.reduceEqDiff, Nat.reduceLT, Nat.reduceLeDiff, Nat.reduceAdd, Nat.reduceMul, Nat.reduceSub, Nat.reduceBEq, Int.reduceToNat, Int.reduceLE, Int.reduceLT, Int.reduceNeg, Nat.reduceMod, sid_ne1, sid_ne2, sid_inj, sid_mod, gT, TK.isInt, TK.agg, Array.toList, h1a, h5a, r11a, h6a, r15a, h7a, hsl, hrl]
  refine ⟨fun h => ?_, fun h => ?_⟩
  · have hwk : IntKind.i64.wrap ((k : Int) - 1) = ((k - 1 : Nat) : Int) := by rw [wrap_id (by omega) (by omega)]; omega
    have hg1 := sizesL_getD f (k := k - 1) (by omega)
    have hg2 := sizesL_getD f h
    have ho1 := ordS_len f (k - 1) (Nat.le_refl 64)
    have ho2 := ordS_len f k (Nat.le_refl 64)
    simp (maxSteps := 5000000) -dsimp only [↓gp, gq, reduceCtorEq, Nat.reduceEqDiff, Nat.reduceLT, Nat.reduceLeDiff, Nat.reduceAdd, Nat.reduceMul, Nat.reduceSub, Nat.reduceBEq, Int.reduceToNat, Int.reduceLE, Int.reduceLT, Int.reduceNeg, Nat.reduceMod, sid_ne1, sid_ne2, sid_inj, sid_mod, gT, TK.isInt, TK.agg, Array.toList, h1a, h5a, r11a, h6a, r15a, h7a, hsl, hrl, hwk, hg1, hg2]
    refine ⟨by kernel_rfl, by omega, by omega, h, h, askK_of (c_impl_borderOf (ordS f (k - 1) 64) (ordS f k 64) (k - 1) ho1 ho2 (fun i hi => ?_) (fun i hi => ?_)) ?_⟩
    · have := mem_ordS.1 (getD_mem 0 hi); exact ⟨this.1, this.2.2⟩
    · have := mem_ordS.1 (getD_mem 0 hi); exact ⟨this.1, by omega⟩
    · simp (maxSteps := 5000000) -dsimp only [↓gp, gq, reduceCtorEq, Nat.reduceEqDiff, Nat.reduceLT, Nat.reduceLeDiff, Nat.reduceAdd, Nat.reduceMul, Nat.reduceSub, Nat.reduceBEq, Int.reduceToNat, Int.reduceLE, Int.reduceLT, Int.reduceNeg, Nat.reduceMod, sid_ne1, sid_ne2, sid_inj, sid_mod, gT, TK.isInt, TK.agg, Array.toList, h1a, h5a, r11a, h6a, r15a, h7a, hsl, hrl, hwk, hg1, hg2]
      have hrk : rankM p (bordM (ordS f (k - 1) 64) (ordS f k 64)) = rkF f p k := by unfold rkF; rw [if_neg (by omega)]
      have hb1 := bordM_length (ordS f (k - 1) 64) (ordS f k 64)
      have hb3 := bordM_len0 (ordS f (k - 1) 64) (ordS f k 64)
      refine askK_of (c_impl_rankOf _ p hp (by omega) (bordM_rect _ _) (by omega)) ?_
      rw [hrk]
      have hset := rkL_set f p h
      simp (maxSteps := 5000000) -dsimp only [↓gp, gq, reduceCtorEq, Nat.reduceEqDiff, Nat.reduceLT, Nat.reduceLeDiff, Nat.reduceAdd, Nat.reduceMul, Nat.reduceSub, Nat.reduceBEq, Int.reduceToNat, Int.reduceLE, Int.reduceLT, Int.reduceNeg, Nat.reduceMod, sid_ne1, sid_ne2, sid_inj, sid_mod, gT, TK.isInt, TK.agg, Array.toList, h1a, h5a, r11a, h6a, r15a, h7a, hsl, hrl, hwk, hg1, hg2, hset]
      refine ⟨by omega, by omega, by kernel_rfl, ?_⟩
      exact again_of ((k + 1, v, w)) (by refine ⟨?_, ?_, ?_, ?_, ?_, ?_, ⟨by dsimp only; omega, by dsimp only; omega, by dsimp only; omega⟩⟩ <;> (first | (simp (maxSteps := 5000000) -dsimp only [gr, Nat.reduceEqDiff, Nat.reduceLT, Nat.reduceAdd, Nat.reduceMod, Nat.reduceBEq, sid_mod, sid_ne1, sid_ne2, sid_inj, h1a, h5a, r11a, h6a, r15a, h7a, wrap_nat h (by omega), hwk, hg1, hg2, hset]; first | done | rfl | (simp; done)) | assumption | rfl)) (by first | omega | (simp only; omega) | (dsimp only; omega) | (show _ < _; simp; omega))
  · have hrk : ∀ j, j < dimN f + 1 → (rkL f p k).getD j 0 = (rkF f p j : Int) := fun j hj => by
      rw [rkL_getD f p hj]
      split
      · rfl
      · rw [rkF_out (by omega)]; rfl
    generalize rkL f p k = rk at *
    refine ⟨by omega, by omega, ?_⟩
    refine loop_of (fun (zb : Nat × Nat × Nat × Nat) s => match zb with | (k, v, w, u) => s.sl 5 = .own 11 v ∧ s.rw 11 = ⟨v, .sli 31 1 false (iLL (sizesL f))⟩ ∧ s.sl 6 = .own 15 w ∧ s.rw 15 = ⟨w, .sli 3 1 false (iL rk)⟩ ∧ s.sl 8 = .own 39 u ∧ s.rw 39 = ⟨u, .sli 3 1 false (iL (prt (holF f p) (List.replicate (dimN f) 0) k))⟩ ∧ s.sl 41 = int (dimN f : Nat) ∧ s.sl 42 = int k ∧ (k ≤ dimN f)) (fun (k, v, w, u) => dimN f - k) ((0, v, w, (sa.rw 39).ver + 1)) (by refine ⟨?_, ?_, ?_, ?_, ?_, ?_, ?_, ?_, by omega⟩ <;> (first | (simp (maxSteps := 5000000) -dsimp only [gr, Nat.reduceEqDiff, Nat.reduceLT, Nat.reduceAdd, Nat.reduceMod, Nat.reduceBEq, sid_mod, sid_ne1, sid_ne2, sid_inj, h1a, h5a, r11a, h6a, r15a, h7a, hsl, prt_zero, iL_replicate]; first | done | rfl | (simp; done)) | assumption | rfl)) ?_
    intro (k, v, w, u) sb ⟨h5b, r11b, h6b, r15b, h8b, r39b, h41b, h42b, hIb⟩
    have hnl : (holF f p).length = (List.replicate (dimN f) (0 : Int)).length := by simp [holF_length]
    have hpl : (prt (holF f p) (List.replicate (dimN f) 0) k).length = dimN f := by rw [prt_length hnl]; simp
    by_cases h2 : k < dimN f
    · have hwk := wrap_nat h2 (by omega)
      have hg1 := sizesL_getD f h2
      have ho1 := ordS_len f k (Nat.le_refl 64)
      have hr1 := rkF_le f p k
      have hr2 := rkF_le f p (k + 1)
      have hw1 : IntKind.i64.wrap (((ordS f k 64).length : Int) - (rkF f p k : Int)) = ((ordS f k 64).length : Int) - (rkF f p k : Int) := wrap_id (by omega) (by omega)
      have hw2 : IntKind.i64.wrap (((ordS f k 64).length : Int) - (rkF f p k : Int) - (rkF f p (k + 1) : Int)) = ((ordS f k 64).length : Int) - (rkF f p k : Int) - (rkF f p (k + 1) : Int) := wrap_id (by omega) (by omega)
      have hk1 := hrk k (by omega)
      have hk2 := hrk (k + 1) (by omega)
      have hset : (prt (holF f p) (List.replicate (dimN f) 0) k).set k (((ordS f k 64).length : Int) - rkF f p k - rkF f p (k + 1)) = prt (holF f p) (List.replicate (dimN f) 0) (k + 1) := by
        rw [← holF_getD f p h2, prt_set hnl (by simpa using h2)]
      simp (maxSteps := 5000000) -dsimp only [↓gp, gq, reduceCtorEq, Nat.reduceEqDiff, Nat.reduceLT, Nat.reduceLeDiff, Nat.reduceAdd, Nat.reduceMul, Nat.reduceSub, Nat.reduceBEq, Int.reduceToNat, Int.reduceLE, Int.reduceLT, Int.reduceNeg, Nat.reduceMod, sid_ne1, sid_ne2, sid_inj, sid_mod, gT, TK.isInt, TK.agg, Array.toList, h5b, r11b, h6b, r15b, h8b, r39b, h41b, h42b, hsl, hrl, hpl, hwk, hg1, ofN_length, hk1, hk2, hw1, hw2, hset]
      refine ⟨fun _ => ⟨by kernel_rfl, h2, h2, by omega, by omega, by omega, by omega, h2, by omega, by kernel_rfl, ?_⟩, fun h3 => absurd h2 h3⟩
      exact again_of ((k + 1, v, w, u)) (by refine ⟨?_, ?_, ?_, ?_, ?_, ?_, ?_, ?_, by dsimp only; omega⟩ <;> (first | (simp (maxSteps := 5000000) -dsimp only [gr, Nat.reduceEqDiff, Nat.reduceLT, Nat.reduceAdd, Nat.reduceMod, Nat.reduceBEq, sid_mod, sid_ne1, sid_ne2, sid_inj, h5b, r11b, h6b, r15b, h8b, r39b, h41b, h42b, hwk, hg1, hk1, hk2, hw1, hw2, hset]; first | done | rfl | (simp; done)) | assumption | rfl)) (by first | omega | (simp only; omega) | (dsimp only; omega) | (show _ < _; simp; omega))
    · simp (maxSteps := 5000000) -dsimp only [↓gp, gq, reduceCtorEq, Nat.reduceEqDiff, Nat.reduceLT, Nat.reduceLeDiff, Nat.reduceAdd, Nat.reduceMul, Nat.reduceSub, Nat.reduceBEq, Int.reduceToNat, Int.reduceLE, Int.reduceLT, Int.reduceNeg, Nat.reduceMod, sid_ne1, sid_ne2, sid_inj, sid_mod, gT, TK.isInt, TK.agg, Array.toList, h5b, r11b, h6b, r15b, h8b, r39b, h41b, h42b, hsl, hrl, hpl]
      refine ⟨fun h3 => absurd h3 h2, fun _ => ?_⟩
      have e : k = (List.replicate (dimN f) (0 : Int)).length := by simp; omega
      have := prt_end hnl
      rw [← e] at this
      rw [this]
end Go.Proofs.Ytnfpeinbdfmlnaa

namespace Go.Proofs.Ytnfpeinbdfmlnaa
open Go.Abs
set_option linter.unusedSimpArgs false
set_option linter.unusedVariables false

/-- A complex with a face at all. -/
noncomputable def hasF (n : Int) (xs : List Int) : Bool := isCx n xs && !(xs.length == 0)
theorem hasF_iff {n : Int} {xs : List Int} : hasF n xs = true ↔ isCx n xs = true ∧ 0 < xs.length := by
  unfold hasF
  cases isCx n xs <;> simp [Nat.pos_iff_ne_zero]
noncomputable def dimR (n : Int) (xs : List Int) : Int := if hasF n xs = true then (popN (xs.getD (xs.length - 1) 0).toNat : Int) - 1 else -2
theorem dimR_test (n : Int) (xs : List Int) : decide (dimR n xs < -1) = !hasF n xs := by
  unfold dimR
  cases hasF n xs <;> simp; omega
theorem c_spec_DimOf (n : Int) (xs : List Int) : AC Try.prog 77 [.ag [int n, ints xs]] (.im (int (dimR n xs))) := by
  refine AC.go (rs := [.tmp 2]) T_ok mixed Try.func77 rfl rfl rfl (by kernel_rfl) fun hl => ?_
  simp only [lens_cons, lens_nil, and_true, lens2_ag2, lens1_v, lens1_iL, true_and] at hl
  simp (maxSteps := 5000000) -dsimp only [↓gp, gq, reduceCtorEq, Nat.reduceEqDiff, Nat.reduceLT, Nat.reduceLeDiff, Nat.reduceAdd, Nat.reduceMul, Nat.reduceSub, Nat.reduceBEq, Int.reduceToNat, Int.reduceLE, Int.reduceLT, Int.reduceNeg, Nat.reduceMod, sid_ne1, sid_ne2, sid_inj, sid_mod, gT, TK.isInt, TK.agg, Array.toList]
  refine askK_of (c_spec_IsComplex n xs) ?_
  have hw : 0 < xs.length → IntKind.i64.wrap ((xs.length : Int) - 1) = ((xs.length - 1 : Nat) : Int) := fun h => by rw [wrap_id (by omega) (by omega)]; omega
  by_cases hh : hasF n xs = true
  · obtain ⟨h1, h2⟩ := hasF_iff.1 hh
    have hs := okS_at (cx_ok h1) (k := xs.length - 1) (by omega)
    have hc := c_spec_l2Sizei (s := xs.getD (xs.length - 1) 0) hs.1 (by omega)
    have hz : ((xs.length : Int) == 0) = false := by rw [beq_eq_false_iff_ne]; omega
    have hp := pop_le6 (s := (xs.getD (xs.length - 1) 0).toNat) (by omega)
    simp (maxSteps := 5000000) -dsimp only [↓gp, gq, reduceCtorEq, Nat.reduceEqDiff, Nat.reduceLT, Nat.reduceLeDiff, Nat.reduceAdd, Nat.reduceMul, Nat.reduceSub, Nat.reduceBEq, Int.reduceToNat, Int.reduceLE, Int.reduceLT, Int.reduceNeg, Nat.reduceMod, sid_ne1, sid_ne2, sid_inj, sid_mod, gT, TK.isInt, TK.agg, Array.toList, h1, hz, hw h2, Int.toNat_natCast]
    refine ⟨by omega, by omega, askK_of hc ?_⟩
    have hw2 : IntKind.i64.wrap ((popN (xs.getD (xs.length - 1) 0).toNat : Int) - 1) = (popN (xs.getD (xs.length - 1) 0).toNat : Int) - 1 := wrap_id (by omega) (by omega)
    have hd : dimR n xs = (popN (xs.getD (xs.length - 1) 0).toNat : Int) - 1 := if_pos hh
    simp (maxSteps := 5000000) -dsimp only [↓gp, gq, reduceCtorEq, Nat.reduceEqDiff, Nat.reduceLT, Nat.reduceLeDiff, Nat.reduceAdd, Nat.reduceMul, Nat.reduceSub, Nat.reduceBEq, Int.reduceToNat, Int.reduceLE, Int.reduceLT, Int.reduceNeg, Nat.reduceMod, sid_ne1, sid_ne2, sid_inj, sid_mod, gT, TK.isInt, TK.agg, Array.toList, hw2, hd]
  · have hd : dimR n xs = -2 := if_neg hh
    rw [hd]
    simp (maxSteps := 5000000) -dsimp only [↓gp, gq, reduceCtorEq, Nat.reduceEqDiff, Nat.reduceLT, Nat.reduceLeDiff, Nat.reduceAdd, Nat.reduceMul, Nat.reduceSub, Nat.reduceBEq, Int.reduceToNat, Int.reduceLE, Int.reduceLT, Int.reduceNeg, Nat.reduceMod, sid_ne1, sid_ne2, sid_inj, sid_mod, gT, TK.isInt, TK.agg, Array.toList]
    exact fun hc h0 => absurd (hasF_iff.2 ⟨by simpa using hc, by simp at h0; exact List.length_pos_iff.2 h0⟩) hh
theorem c_spec_l3Make (n : Int) (xs : List Int) (hx : okS xs) : AC Try.prog 120 [int n, ints xs] (.ag [.im (int n), .fr 3 1 (iL (ofN (extN (inF xs) true)))]) := by
  refine AC.go (rs := [.cell 4 57]) T_ok mixed Try.func120 rfl rfl rfl (by kernel_rfl) fun hl => ?_
  simp (maxSteps := 5000000) -dsimp only [↓gp, gq, reduceCtorEq, Nat.reduceEqDiff, Nat.reduceLT, Nat.reduceLeDiff, Nat.reduceAdd, Nat.reduceMul, Nat.reduceSub, Nat.reduceBEq, Int.reduceToNat, Int.reduceLE, Int.reduceLT, Int.reduceNeg, Nat.reduceMod, sid_ne1, sid_ne2, sid_inj, sid_mod, gT, TK.isInt, TK.agg, Array.toList]
  refine askK_of (c_spec_l2Extreme true xs hx) ?_
  simp (maxSteps := 5000000) -dsimp only [↓gp, gq, reduceCtorEq, Nat.reduceEqDiff, Nat.reduceLT, Nat.reduceLeDiff, Nat.reduceAdd, Nat.reduceMul, Nat.reduceSub, Nat.reduceBEq, Int.reduceToNat, Int.reduceLE, Int.reduceLT, Int.reduceNeg, Nat.reduceMod, sid_ne1, sid_ne2, sid_inj, sid_mod, gT, TK.isInt, TK.agg, Array.toList]
end Go.Proofs.Ytnfpeinbdfmlnaa

namespace Go.Proofs.Ytnfpeinbdfmlnaa
open Go.Abs
set_option linter.unusedSimpArgs false
set_option linter.unusedVariables false

theorem cx_len {n : Int} {xs : List Int} (h : isCx n xs = true) : xs.length ≤ 64 := by
  have hn := cx_nodup (isCx_iff.1 h)
  have hx := cx_ok h
  have h2 : (xs.map Int.toNat).Nodup := by
    refine List.Pairwise.map _ (fun a b => ?_) (List.Pairwise.imp_of_mem (S := fun a b => 0 ≤ a ∧ 0 ≤ b ∧ a ≠ b) (fun ha hb hab => ⟨(hx _ ha).1, (hx _ hb).1, hab⟩) hn)
    intro ⟨q1, q2, q3⟩ e
    omega
  refine Classical.byContradiction fun hc => ?_
  have := (perm_of_sub (m := List.range 64) h2 (fun x hx' => ?_) (by simp; omega)).length_eq
  · simp at this; omega
  · obtain ⟨y, hy, rfl⟩ := List.mem_map.1 hx'
    have := hx y hy
    exact List.mem_range.2 (by omega)
end Go.Proofs.Ytnfpeinbdfmlnaa

namespace Go.Proofs.Ytnfpeinbdfmlnaa
open Go.Abs
set_option linter.unusedSimpArgs false
set_option linter.unusedVariables false

/-- The greatest sets of a family within n points are a complex. -/
theorem ext_cx {m : Nat} (h1 : 1 ≤ m) (hm : m ≤ 6) {f : Nat → Bool} (hf : ∀ s, s < 64 → f s = true → s < 2 ^ m) : isCx (m : Int) (ofN (extN f true)) = true := by
  refine isCx_yes ⟨(by omega : (1 : Int) ≤ (m : Int)), (by omega : (m : Int) ≤ 6), fun k hk2 => ?_⟩
  rw [ofN_length] at hk2
  have hpw := extN_pw f true
  have hmem := fun i (hi : i < (extN f true).length) => mem_extN.1 (getD_mem 0 hi)
  generalize extN f true = ys at *
  have hbef : ∀ i j, i < j → j < ys.length → befN (ys.getD i 0) (ys.getD j 0) := fun i j hij hj => by
    have := List.pairwise_iff_getElem.1 hpw i j (by omega) hj hij
    have a : ys.getD i 0 = ys[i]'(by omega) := by simp [List.getD, show i < ys.length by omega]
    have b : ys.getD j 0 = ys[j] := by simp [List.getD, hj]
    rw [a, b]; exact this
  refine ⟨?_, fun h0 => ?_, fun i hi => ?_⟩
  · have h1 := hmem k hk2
    have h2 := hf _ h1.1.1 h1.1.2
    rw [ofN_getD hk2]
    unfold inSet
    rw [decide_eq_true_iff]
    refine ⟨by omega, by omega, by omega, ?_⟩
    rw [pow_nat]; exact_mod_cast h2
  · rw [ofN_getD hk2, ofN_getD (by omega)]
    have hb := hbef (k - 1) k (by omega) hk2
    have := (hmem k hk2).1.1
    have := (hmem (k - 1) (by omega)).1.1
    unfold befS
    unfold befN at hb
    rw [szOf_nat (by omega), szOf_nat (by omega)]
    simp only [Bool.and_eq_true, decide_eq_true_iff]
    refine ⟨by omega, by omega, ?_⟩
    split
    · rw [decide_eq_true_iff]; omega
    · rw [decide_eq_true_iff]; omega
  · have hlti := (hmem i (by omega)).1.1
    have hltk := (hmem k hk2).1
    rw [ofN_getD hk2, ofN_getD (by omega), iand_nat (by omega) (by omega)]
    intro e
    have := extB_iff'.1 (hmem i (by omega)).2 (ys.getD k 0) hltk.1 hltk.2 (by omega)
    have hb := hbef i k hi hk2
    rw [this] at hb
    exact befN_irrefl hb
theorem inF_eq (xs : List Int) (t : Nat) : inF xs t = decide ((t : Int) ∈ xs) := rfl
/-- The complements of the sets that are missing. -/
noncomputable def cpsL (n : Int) (xs : List Int) : List Int := (ofN (misL n xs)).map (compl n)
noncomputable def duaL (n : Int) (xs : List Int) : List Int := ofN (extN (inF (cpsL n xs)) true)
theorem cmp_mem {m : Nat} {xs : List Int} (h : isCx (m : Int) xs = true) (t : Nat) :
    (t : Int) ∈ cpsL m xs ↔ ∃ u, u < 2 ^ m ∧ faceB xs u = false ∧ (∀ v, v < 2 ^ m → faceB xs v = false → v &&& u = v → v = u) ∧ t = 2 ^ m - 1 - u := by
  obtain ⟨h1, h6, _⟩ := isCx_iff.1 h
  have h64 := two_pow_le (m := m) (by omega)
  have hms : ∀ s : Nat, misF m xs s = true ↔ s < 2 ^ m ∧ faceB xs s = false := fun s => by
    unfold misF inSet
    rw [h, Bool.true_and, Bool.and_eq_true, decide_eq_true_iff, Bool.not_eq_true', pow_nat]
    exact ⟨fun ⟨⟨_, _, _, a⟩, b⟩ => ⟨by omega, b⟩, fun ⟨a, b⟩ => ⟨⟨by omega, by omega, by omega, by omega⟩, b⟩⟩
  have hcm : ∀ s : Nat, s < 2 ^ m → compl m s = ((2 ^ m - 1 - s : Nat) : Int) := fun s hs => by
    have hin : inSet m s = true := by
      unfold inSet; rw [decide_eq_true_iff, pow_nat]; exact ⟨by omega, by omega, by omega, by omega⟩
    unfold compl
    rw [if_pos hin, pow_nat]; omega
  unfold cpsL
  rw [List.mem_map]
  refine ⟨fun ⟨x, hx, e⟩ => ?_, fun ⟨u, hu, hfu, hmin, e⟩ => ?_⟩
  · unfold ofN at hx
    obtain ⟨s, hs, rfl⟩ := List.mem_map.1 hx
    obtain ⟨⟨s1, s2⟩, s3⟩ := mem_extN.1 hs
    obtain ⟨a, b⟩ := (hms s).1 s2
    rw [hcm s a] at e
    exact ⟨s, a, b, fun v hv hfv hvu => extB_iff.1 s3 v (by omega) ((hms v).2 ⟨hv, hfv⟩) hvu, by omega⟩
  · refine ⟨u, ?_, by rw [hcm u hu, e]⟩
    unfold ofN
    refine List.mem_map.2 ⟨u, mem_extN.2 ⟨⟨by omega, (hms u).2 ⟨hu, hfu⟩⟩, extB_iff.2 fun v hv hq hvu => ?_⟩, rfl⟩
    obtain ⟨a, b⟩ := (hms v).1 hq
    exact hmin v a b hvu
theorem dua_cx {m : Nat} {xs : List Int} (h : isCx (m : Int) xs = true) : isCx (m : Int) (duaL m xs) = true := by
  obtain ⟨h1, h6, _⟩ := isCx_iff.1 h
  refine ext_cx (by omega) (by omega) fun s hs hf => ?_
  rw [inF_eq, decide_eq_true_iff] at hf
  obtain ⟨u, hu, _, _, rfl⟩ := (cmp_mem h s).1 hf
  omega
theorem dua_face {m : Nat} {xs : List Int} (h : isCx (m : Int) xs = true) {s : Nat} (hs : s < 64) : faceB (duaL m xs) s = dualF m (faceB xs) s := by
  obtain ⟨h1, h6, _⟩ := isCx_iff.1 h
  unfold duaL
  rw [faceB_ext]
  exact dual_faces (by omega) (fun s t a b => faceB_down a b) (fun t => cmp_mem h t) hs
theorem dua_fac {m : Nat} {xs : List Int} (h : isCx (m : Int) xs = true) {s : Nat} (hs : s < 64) : facF m (duaL m xs) s = dualF m (faceB xs) s := by
  unfold facF
  rw [dua_cx h, dua_face h hs]; rfl
theorem dua_ord {m : Nat} {xs : List Int} (h : isCx (m : Int) xs = true) : ordN (facF m (duaL m xs)) = ordN (dualF m (faceB xs)) := ordN_congr fun s hs => dua_fac h hs
/-- The sets of the link. -/
def lnkL (xs : List Int) (s : Nat) : List Int := (xs.filter fun x => iand .i64 x s == (s : Int)).map fun x => x - s
theorem lnk_mem {xs : List Int} (hx : okS xs) {s : Nat} (hs : s < 64) (v : Nat) : (v : Int) ∈ lnkL xs s ↔ ∃ x ∈ xs, x.toNat &&& s = s ∧ v = x.toNat - s := by
  have key : ∀ x ∈ xs, iand .i64 x (s : Int) = ((x.toNat &&& s : Nat) : Int) := fun x h => by
    have := hx x h
    rw [← iand_nat (by omega) (by omega)]
    congr 1; omega
  unfold lnkL
  rw [List.mem_map]
  refine ⟨fun ⟨x, h1, e⟩ => ?_, fun ⟨x, h1, h2, e⟩ => ?_⟩
  · obtain ⟨a, b⟩ := List.mem_filter.1 h1
    rw [beq_iff_eq, key x a] at b
    exact ⟨x, a, by omega, by have := hx x a; omega⟩
  · refine ⟨x, List.mem_filter.2 ⟨h1, by rw [beq_iff_eq, key x h1, h2]⟩, ?_⟩
    have := hx x h1
    have : s ≤ x.toNat := by rw [← h2]; exact Nat.and_le_left
    omega
theorem lnk_cx {m : Nat} {xs : List Int} (h : isCx (m : Int) xs = true) {s : Nat} (hs : s < 64) : isCx (m : Int) (ofN (extN (inF (lnkL xs s)) true)) = true := by
  obtain ⟨h1, h6, hk⟩ := isCx_iff.1 h
  refine ext_cx (by omega) (by omega) fun t ht hf => ?_
  rw [inF_eq, decide_eq_true_iff] at hf
  obtain ⟨x, hx, _, rfl⟩ := (lnk_mem (cx_ok h) hs t).1 hf
  obtain ⟨i, hi, rfl⟩ := mem_getD 0 hx
  have := (hk i hi).1
  unfold inSet at this
  rw [decide_eq_true_iff, pow_nat] at this
  omega
theorem lnk_fac {m : Nat} {xs : List Int} (h : isCx (m : Int) xs = true) {s : Nat} (hs : s < 64) (t : Nat) : facF m (ofN (extN (inF (lnkL xs s)) true)) t = linkF (faceB xs) s t := by
  unfold facF
  rw [lnk_cx h hs, Bool.true_and, faceB_ext]
  exact link_faces (fun x hx => by have := cx_ok h x hx; omega) hs (fun v => lnk_mem (cx_ok h) hs v) t
theorem hol_lnk {m : Nat} {xs : List Int} (h : isCx (m : Int) xs = true) {s : Nat} (hs : s < 64) {p : Int} (hp : isP p = true) :
    holR (facF m (ofN (extN (inF (lnkL (duaL m xs) s)) true))) p = holF (linkF (dualF m (faceB xs)) s) p := by
  unfold holR
  rw [if_pos hp]
  refine holF_congr p fun t ht => ?_
  rw [lnk_fac (dua_cx h) hs]
  exact linkF_congr (fun u hu => dua_face h hu) hs ht
end Go.Proofs.Ytnfpeinbdfmlnaa

namespace Go.Proofs.Ytnfpeinbdfmlnaa
open Go.Abs
set_option linter.unusedSimpArgs false
set_option linter.unusedVariables false

theorem rangeD {n i : Nat} (h : i < n) : (List.range n).getD i 0 = i := by simp [List.getD, h]
theorem repl_snoc {α : Type} (n : Nat) (a : α) : List.replicate n a ++ [a] = List.replicate (n + 1) a := by rw [List.replicate_succ']
end Go.Proofs.Ytnfpeinbdfmlnaa

namespace Go.Proofs.Ytnfpeinbdfmlnaa
open Go.Abs
set_option linter.unusedSimpArgs false
set_option linter.unusedVariables false

def zeros (n : Nat) : List Int := List.replicate n 0
theorem c_impl_emptyTable (n : Nat) (hn : n ≤ 100) : AC Try.prog 85 [int n] (.tb 31 3 (List.replicate (n + 1) (iL (zeros (n + 1))))) := by
  refine AC.go (rs := [.tmp 2]) T_ok mixed Try.func85 rfl rfl rfl (by kernel_rfl) fun hl => ?_
  have hw : IntKind.i64.wrap ((n : Int) + 1) = ((n + 1 : Nat) : Int) := by rw [wrap_id (by omega) (by omega)]; rfl
  simp (maxSteps := 5000000) -dsimp only [↓gp, gq, reduceCtorEq, Nat.reduceEqDiff, Nat.reduceLT, Nat.reduceLeDiff, Nat.reduceAdd, Nat.reduceMul, Nat.reduceSub, Nat.reduceBEq, Int.reduceToNat, Int.reduceLE, Int.reduceLT, Int.reduceNeg, Nat.reduceMod, sid_ne1, sid_ne2, sid_inj, sid_mod, gT, TK.isInt, TK.agg, Array.toList, hw, Int.toNat_natCast]
  refine ⟨by omega, by omega, ?_⟩
  refine loop_wk (fun (i : Nat) s => s.sl 0 = int n ∧ s.sl 3 = .own 7 1 ∧ s.rw 7 = ⟨1, .tab 31 (tabC 7 (n + 1) i)⟩ ∧ s.sl 9 = int (n + 1 : Nat) ∧ s.sl 10 = int i ∧ (i ≤ n + 1 ∧ (∀ j, j < i → s.rw (sid 7 j) = ⟨1, .sli 3 1 false (iL (zeros (n + 1)))⟩) ∧ ∀ j, i ≤ j → s.rw (sid 7 j) = ⟨0, .dead⟩)) (fun i => n + 1 - i) (0) (Wk.tab (k := 7) (v := 1) (e := 31) (c := List.replicate (n + 1) (.v (.slice none 0 0))) (by simp (maxSteps := 5000000) -dsimp only [gr, Nat.reduceEqDiff, Nat.reduceLT, Nat.reduceAdd, Nat.reduceMod, Nat.reduceBEq, sid_mod, sid_ne1, sid_ne2, sid_inj]) (plain_nils _)) (by refine ⟨?_, ?_, ?_, ?_, ?_, ⟨by simp, fun j h => absurd h (by omega), fun j _ => by simp (maxSteps := 5000000) -dsimp only [gr, Nat.reduceEqDiff, Nat.reduceLT, Nat.reduceAdd, Nat.reduceMod, Nat.reduceBEq, sid_mod, sid_ne1, sid_ne2, sid_inj]⟩⟩ <;> (first | (simp (maxSteps := 5000000) -dsimp only [gr, Nat.reduceEqDiff, Nat.reduceLT, Nat.reduceAdd, Nat.reduceMod, Nat.reduceBEq, sid_mod, sid_ne1, sid_ne2, sid_inj, ← tabC_zero]; first | done | rfl | (simp; done)) | assumption | rfl)) ?_
  intro i sa ⟨h0a, h3a, r7a, h9a, h10a, hIa⟩
  obtain ⟨hi, hlo, hhi⟩ := hIa
  simp (maxSteps := 5000000) -dsimp only [↓gp, gq, reduceCtorEq, Nat.reduceEqDiff, Nat.reduceLT, Nat.reduceLeDiff, Nat.reduceAdd, Nat.reduceMul, Nat.reduceSub, Nat.reduceBEq, Int.reduceToNat, Int.reduceLE, Int.reduceLT, Int.reduceNeg, Nat.reduceMod, sid_ne1, sid_ne2, sid_inj, sid_mod, gT, TK.isInt, TK.agg, Array.toList, h0a, h3a, r7a, h9a, h10a, hw, tabC_length, Int.toNat_natCast]
  refine ⟨fun h => ⟨by omega, by omega, h, by omega, ?_⟩, fun h => ?_⟩
  · exact again_wk (i + 1) (Wk.ren (d := 17) (k := 7) (k' := sid 7 i) (v := (sa.rw 17).ver + 1) (vk := 1) (e := 3) (et := 31) (sz := 1) (c := iL (zeros (n + 1))) (cs := spl (tabC 7 (n + 1) i) i [.own 17 ((sa.rw 17).ver + 1)]) (cs' := tabC 7 (n + 1) (i + 1)) (by simp (maxSteps := 5000000) -dsimp only [gr, Nat.reduceEqDiff, Nat.reduceLT, Nat.reduceAdd, Nat.reduceMod, Nat.reduceBEq, sid_mod, sid_ne1, sid_ne2, sid_inj, zeros]) (by simp (maxSteps := 5000000) -dsimp only [gr, Nat.reduceEqDiff, Nat.reduceLT, Nat.reduceAdd, Nat.reduceMod, Nat.reduceBEq, sid_mod, sid_ne1, sid_ne2, sid_inj, h0a, h3a, r7a, h9a, h10a]) (by simp (maxSteps := 5000000) -dsimp only [gr, Nat.reduceEqDiff, Nat.reduceLT, Nat.reduceAdd, Nat.reduceMod, Nat.reduceBEq, sid_mod, sid_ne1, sid_ne2, sid_inj, hhi i (Nat.le_refl _)]) (by decide) (tabC_ren h)) (by refine ⟨?_, ?_, ?_, ?_, ?_, ⟨by omega, fun j hj => (by
      by_cases e : j = i
      · subst e; simp (maxSteps := 5000000) -dsimp only [gr, Nat.reduceEqDiff, Nat.reduceLT, Nat.reduceAdd, Nat.reduceMod, Nat.reduceBEq, sid_mod, sid_ne1, sid_ne2, sid_inj]
      · simp (maxSteps := 5000000) -dsimp only [gr, Nat.reduceEqDiff, Nat.reduceLT, Nat.reduceAdd, Nat.reduceMod, Nat.reduceBEq, sid_mod, sid_ne1, sid_ne2, sid_inj, e, hlo j (by omega)]), fun j hj => (by
      have e : ¬ j = i := by omega
      simp (maxSteps := 5000000) -dsimp only [gr, Nat.reduceEqDiff, Nat.reduceLT, Nat.reduceAdd, Nat.reduceMod, Nat.reduceBEq, sid_mod, sid_ne1, sid_ne2, sid_inj, e, hhi j (by omega)])⟩⟩ <;> (first | (simp (maxSteps := 5000000) -dsimp only [gr, Nat.reduceEqDiff, Nat.reduceLT, Nat.reduceAdd, Nat.reduceMod, Nat.reduceBEq, sid_mod, sid_ne1, sid_ne2, sid_inj, h0a, h3a, r7a, h9a, h10a, wrap_nat h (by omega)]; first | done | rfl | (simp; done)) | assumption | rfl)) (by first | omega | (simp only; omega) | (dsimp only; omega) | (show _ < _; simp; omega))
  · obtain rfl : i = n + 1 := by omega
    refine out2_tab (n := n + 1) (by decide) (by omega) (by rw [r7a, tabC_end]) (by simp) fun j hj => ?_
    rw [hlo j hj]
    simp [List.getD, hj]
end Go.Proofs.Ytnfpeinbdfmlnaa

namespace Go.Proofs.Ytnfpeinbdfmlnaa
open Go.Abs
set_option linter.unusedSimpArgs false
set_option linter.unusedVariables false

theorem zeroM_map (m : Nat) : List.replicate (m + 1) (iL (zeros (m + 1))) = (List.replicate (m + 1) (List.replicate (m + 1) (0 : Int))).map iL := by simp [zeros]
end Go.Proofs.Ytnfpeinbdfmlnaa

namespace Go.Proofs.Ytnfpeinbdfmlnaa
open Go.Abs
set_option linter.unusedSimpArgs false
set_option linter.unusedVariables false

/-- A table handed over, the state told by what it holds. -/
theorem askTab_of {P : Program} {s : St} {K : St → Prop} {f : FuncId} {args raw : List PV} {Ka : RV → Prop} {d e e2 : Nat} {us : Dm s} {u : Dm K} {M : Mat} (h : AC P f args (.tb e e2 (M.map iL))) (hd : ∀ i, i < M.length → (s.rw (sid d i)).ver = 0)
    (hk : ∀ S : St, TabI S.rw d ((s.rw d).ver + 1) e e2 (List.range M.length) M → S.sl d = .own d ((s.rw d).ver + 1) → (∀ t, t ≠ d → S.sl t = s.sl t) → (∀ j, (j % 1000 == d % 1000) = false → S.rw j = s.rw j) → K S) : askK P f args Ka (askR P f args raw (some d) (kk s us) (kk K u)) :=
  askWk_of _ h (Wk.refl _) (hk _ ⟨by
    have := adoptT_is (s := s) d e e2 (M.map iL) (fun i hi => hd i (by simpa using hi))
    rwa [List.length_map] at this, List.nodup_range⟩ (adoptT_sl d e e2 _) (fun t ht => adoptT_slne d e e2 t _ ht) (fun j hj => adoptT_rw d e e2 j _ hj))
theorem askTabM_of {P : Program} {s : St} {K : St → Prop} {f : FuncId} {args raw lent : List PV} {Ka : RV → Prop} {d e e2 k v : Nat} {us : Dm s} {u : Dm K} {M M' : Mat} {p : List Nat} {x : Value} (h : AT P f args e e2 (M.map iL) (M'.map iL) (.rv (.im (.v x)))) (hg : GiveL [(k, v)] raw args) (ht : TabI s.rw k v e e2 p M) (hl : M'.length = M.length) (hdk : d % 1000 ≠ k % 1000)
    (hk : ∀ (S : St) (q : List Nat), TabI S.rw k v e e2 q M' → q.Perm p → S.sl d = .v x → (∀ t, t ≠ d → S.sl t = s.sl t) → (∀ j, (j % 1000 == k % 1000) = false → S.rw j = s.rw j) → K S) : askK P f lent Ka (askR P f lent raw (some d) (kk s us) (kk K u)) := by
  refine askT_of h hg ht.is ht.nd fun p' hp' => ?_
  have hpl : p'.length = (M'.map iL).length := by rw [hp'.length_eq, ht.len]; simp [hl]
  have hn := hp'.nodup_iff.2 ht.nd
  have h0 : TabI (s.tabbed k v e e2 p' (M'.map iL)).rw k v e e2 p' M' := ⟨⟨tabbed_top .., hpl, fun i hi => tabbed_row hn hi⟩, hn⟩
  refine ⟨hdk, ?_⟩
  rw [adopt_im]
  exact hk _ p' h0 hp' (put_sl_same ..) (fun t ht => put_sl_ne _ _ _ _ ht) (fun j hj => tabbed_rw _ _ _ _ _ _ _ hj)
theorem lend_tabI {rw : Nat → Row} {k v e e2 : Nat} {p : List Nat} {M : Mat} (h : TabI rw k v e e2 p M) (rw' : Nat → Row) (hr : ∀ j, rw' (sid k j) = rw (sid k j)) : (cellsT k p).map (lendC rw') = iLL M := by
  rw [← mapT_I, ← lend_cellsT h.is]
  refine List.map_congr_left fun c hc => ?_
  obtain ⟨j, _, rfl⟩ := List.mem_map.1 hc
  simp only [lendC, hr]
/-- The lengths of the first rows. -/
def sumL (M : Mat) : Nat → Nat | 0 => 0 | i + 1 => sumL M i + (M.getD i []).length
/-- The first rows marked. -/
def mixM (k : Int) (M : Mat) (i : Nat) : Mat := (List.range M.length).map fun j => if j < i then mks (k + sumL M j) (M.getD j []).length else M.getD j []
theorem mixM_length (k : Int) (M : Mat) (i : Nat) : (mixM k M i).length = M.length := by simp [mixM]
theorem mixM_getD (k : Int) (M : Mat) (i : Nat) {j : Nat} (h : j < M.length) : (mixM k M i).getD j [] = if j < i then mks (k + sumL M j) (M.getD j []).length else M.getD j [] := by simp [mixM, List.getD, h]
theorem mixM_zero (k : Int) (M : Mat) : mixM k M 0 = M := by
  refine List.ext_getElem (by simp [mixM]) fun j a b => ?_
  simp [mixM, List.getD, b]
theorem mixM_set (k : Int) (M : Mat) {i : Nat} (h : i < M.length) : (mixM k M i).set i (mks (k + sumL M i) (M.getD i []).length) = mixM k M (i + 1) := by
  refine List.ext_getElem (by simp [mixM]) fun j a b => ?_
  rw [List.getElem_set]
  simp only [mixM, List.getElem_map, List.getElem_range]
  by_cases e : i = j
  · subst e; simp
  · rw [if_neg e]
    by_cases h1 : j < i
    · rw [if_pos h1, if_pos (by omega)]
    · rw [if_neg h1, if_neg (by omega)]
theorem sumL_mono (M : Mat) {i j : Nat} (h : i ≤ j) : sumL M i ≤ sumL M j := by
  induction j with
  | zero => have : i = 0 := by omega
            rw [this]; exact Nat.le_refl _
  | succ j ih =>
    by_cases e : i = j + 1
    · rw [e]; exact Nat.le_refl _
    · exact Nat.le_trans (ih (by omega)) (Nat.le_add_right _ _)
theorem sumL_row (M : Mat) {i : Nat} (h : i < M.length) : sumL M i + (M.getD i []).length ≤ sumL M M.length := by
  have := sumL_mono M (show i + 1 ≤ M.length by omega)
  rwa [sumL] at this
theorem c_laws_markIntSSG (M : Mat) (hl7 : M.length ≤ 1000000000000) (hsm : sumL M M.length ≤ 1000000000000) : AT Try.prog 29 [.own 1000000 1, int 1] 31 3 (M.map iL) ((mixM 1 M M.length).map iL) (.rv (.im (int (1 + (sumL M M.length : Int))))) := by
  refine AT.goI (rs := [.tmp 4]) T_ok mixed Try.func29 rfl rfl rfl (by kernel_rfl) (mixM_length _ _ _) fun hl s hs hlow ht => ?_
  simp (maxSteps := 5000000) -dsimp only [↓gp, gq, reduceCtorEq, Nat.reduceEqDiff, Nat.reduceLT, Nat.reduceLeDiff, Nat.reduceAdd, Nat.reduceMul, Nat.reduceSub, Nat.reduceBEq, Int.reduceToNat, Int.reduceLE, Int.reduceLT, Int.reduceNeg, Nat.reduceMod, sid_ne1, sid_ne2, sid_inj, sid_mod, gT, TK.isInt, TK.agg, Array.toList, hs, hlow, ht.top]
  refine loop_of (fun (i : Nat) s => s.sl 0 = .own 1000000 1 ∧ s.sl 1 = int (1 + (sumL M i : Int)) ∧ s.sl 5 = int i ∧ (i ≤ M.length ∧ TabI s.rw 1000000 1 31 3 (List.range M.length) (mixM 1 M i))) (fun i => M.length - i) (0) (by refine ⟨?_, ?_, ?_, ⟨by omega, by rw [mixM_zero]; exact ht.same (by simp (maxSteps := 5000000) -dsimp only [gr, Nat.reduceEqDiff, Nat.reduceLT, Nat.reduceAdd, Nat.reduceMod, Nat.reduceBEq, sid_mod, sid_ne1, sid_ne2, sid_inj]) (fun x => by simp (maxSteps := 5000000) -dsimp only [gr, Nat.reduceEqDiff, Nat.reduceLT, Nat.reduceAdd, Nat.reduceMod, Nat.reduceBEq, sid_mod, sid_ne1, sid_ne2, sid_inj])⟩⟩ <;> (first | (simp (maxSteps := 5000000) -dsimp only [gr, Nat.reduceEqDiff, Nat.reduceLT, Nat.reduceAdd, Nat.reduceMod, Nat.reduceBEq, sid_mod, sid_ne1, sid_ne2, sid_inj, hs, sumL]; first | done | rfl | (simp; done)) | assumption | rfl)) ?_
  intro i sa ⟨h0a, h1a, h5a, hIa⟩
  obtain ⟨hi, ht1⟩ := hIa
  have hml := mixM_length 1 M i
  have hsl := sumL_mono M hi
  simp (maxSteps := 5000000) -dsimp only [↓gp, gq, reduceCtorEq, Nat.reduceEqDiff, Nat.reduceLT, Nat.reduceLeDiff, Nat.reduceAdd, Nat.reduceMul, Nat.reduceSub, Nat.reduceBEq, Int.reduceToNat, Int.reduceLE, Int.reduceLT, Int.reduceNeg, Nat.reduceMod, sid_ne1, sid_ne2, sid_inj, sid_mod, gT, TK.isInt, TK.agg, Array.toList, h0a, h1a, h5a, ht1.top, cellsT_length, List.length_range]
  refine ⟨fun h => ?_, fun h => ?_⟩
  · have hr := ht1.row (i := i) (by omega)
    rw [rangeG h, mixM_getD 1 M i h, if_neg (by omega)] at hr
    have hrl := sumL_row M h
    simp (maxSteps := 5000000) -dsimp only [↓gp, gq, reduceCtorEq, Nat.reduceEqDiff, Nat.reduceLT, Nat.reduceLeDiff, Nat.reduceAdd, Nat.reduceMul, Nat.reduceSub, Nat.reduceBEq, Int.reduceToNat, Int.reduceLE, Int.reduceLT, Int.reduceNeg, Nat.reduceMod, sid_ne1, sid_ne2, sid_inj, sid_mod, gT, TK.isInt, TK.agg, Array.toList, h0a, h1a, h5a, ht1.top, ld_cellsT, rangeG h, hr, List.length_range]
    refine ⟨h, h, askM_of (c_laws_markIntS (M.getD i []) (1 + (sumL M i : Int)) (by omega) (by omega) (by omega)) [(sid 1000000 i, 1)] (by repeat (first | exact GiveL.nil | refine GiveL.v ?_ | refine GiveL.own 0 rfl ?_ | refine GiveL.own 1 rfl ?_ | refine GiveL.ag ?_ ?_)) ⟨by simp (maxSteps := 5000000) -dsimp only [gr, Nat.reduceEqDiff, Nat.reduceLT, Nat.reduceAdd, Nat.reduceMod, Nat.reduceBEq, sid_mod, sid_ne1, sid_ne2, sid_inj, h0a, h1a, h5a, hr], trivial⟩ (by simp) ?_⟩
    have es : 1 + (sumL M i : Int) + (M.getD i []).length = 1 + (sumL M (i + 1) : Int) := by rw [sumL]; omega
    have hms := mixM_set 1 M h
    simp (maxSteps := 5000000) -dsimp only [↓gp, gq, reduceCtorEq, Nat.reduceEqDiff, Nat.reduceLT, Nat.reduceLeDiff, Nat.reduceAdd, Nat.reduceMul, Nat.reduceSub, Nat.reduceBEq, Int.reduceToNat, Int.reduceLE, Int.reduceLT, Int.reduceNeg, Nat.reduceMod, sid_ne1, sid_ne2, sid_inj, sid_mod, gT, TK.isInt, TK.agg, Array.toList, h0a, h1a, h5a, ht1.top, hr, es]
    exact again_of (i + 1) (by refine ⟨?_, ?_, ?_, ⟨by omega, by
      rw [← hms]
      exact ht1.set (i := i) (by omega) (by simp (maxSteps := 5000000) -dsimp only [gr, Nat.reduceEqDiff, Nat.reduceLT, Nat.reduceAdd, Nat.reduceMod, Nat.reduceBEq, sid_mod, sid_ne1, sid_ne2, sid_inj, h0a, h1a, h5a]) (by simp (maxSteps := 5000000) -dsimp only [gr, Nat.reduceEqDiff, Nat.reduceLT, Nat.reduceAdd, Nat.reduceMod, Nat.reduceBEq, sid_mod, sid_ne1, sid_ne2, sid_inj, rangeG h, h0a, h1a, h5a, hr]) (fun x hx => by simp (maxSteps := 5000000) -dsimp only [gr, Nat.reduceEqDiff, Nat.reduceLT, Nat.reduceAdd, Nat.reduceMod, Nat.reduceBEq, sid_mod, sid_ne1, sid_ne2, sid_inj, rangeG h ▸ hx])⟩⟩ <;> (first | (simp (maxSteps := 5000000) -dsimp only [gr, Nat.reduceEqDiff, Nat.reduceLT, Nat.reduceAdd, Nat.reduceMod, Nat.reduceBEq, sid_mod, sid_ne1, sid_ne2, sid_inj, h0a, h1a, h5a, wrap_nat h (by omega), es]; first | done | rfl | (simp; done)) | assumption | rfl)) (by first | omega | (simp only; omega) | (dsimp only; omega) | (show _ < _; simp; omega))
  · have : i = M.length := by omega
    subst this
    exact ⟨tabEnd_of ht1 (List.Perm.refl _), rfl⟩
theorem c_laws_heldIntSSG (M : Mat) (hl7 : M.length ≤ 1000000000000) (hsm : sumL M M.length ≤ 1000000000000) : AC Try.prog 46 [int2 (mixM 1 M M.length), int 1] (.im (int (1 + (sumL M M.length : Int)))) := by
  refine AC.go (rs := [.tmp 4]) T_ok mixed Try.func46 rfl rfl rfl (by kernel_rfl) fun hl => ?_
  have hml := mixM_length 1 M M.length
  simp (maxSteps := 5000000) -dsimp only [↓gp, gq, reduceCtorEq, Nat.reduceEqDiff, Nat.reduceLT, Nat.reduceLeDiff, Nat.reduceAdd, Nat.reduceMul, Nat.reduceSub, Nat.reduceBEq, Int.reduceToNat, Int.reduceLE, Int.reduceLT, Int.reduceNeg, Nat.reduceMod, sid_ne1, sid_ne2, sid_inj, sid_mod, gT, TK.isInt, TK.agg, Array.toList]
  refine loop_of (fun (i : Nat) s => s.sl 0 = int2 (mixM 1 M M.length) ∧ s.sl 1 = int (1 + (sumL M i : Int)) ∧ s.sl 5 = int i ∧ (i ≤ M.length)) (fun i => M.length - i) (0) (by refine ⟨?_, ?_, ?_, by omega⟩ <;> (first | (simp (maxSteps := 5000000) -dsimp only [gr, Nat.reduceEqDiff, Nat.reduceLT, Nat.reduceAdd, Nat.reduceMod, Nat.reduceBEq, sid_mod, sid_ne1, sid_ne2, sid_inj, sumL]; first | done | rfl | (simp; done)) | assumption | rfl)) ?_
  intro i sa ⟨h0a, h1a, h5a, hIa⟩
  have hsl := sumL_mono M hIa
  simp (maxSteps := 5000000) -dsimp only [↓gp, gq, reduceCtorEq, Nat.reduceEqDiff, Nat.reduceLT, Nat.reduceLeDiff, Nat.reduceAdd, Nat.reduceMul, Nat.reduceSub, Nat.reduceBEq, Int.reduceToNat, Int.reduceLE, Int.reduceLT, Int.reduceNeg, Nat.reduceMod, sid_ne1, sid_ne2, sid_inj, sid_mod, gT, TK.isInt, TK.agg, Array.toList, h0a, h1a, h5a, hml]
  refine ⟨fun h => ?_, fun h => ?_⟩
  · have hg : (mixM 1 M M.length).getD i [] = mks (1 + (sumL M i : Int)) (M.getD i []).length := by rw [mixM_getD 1 M _ h, if_pos h]
    have hrl := sumL_row M h
    simp (maxSteps := 5000000) -dsimp only [↓gp, gq, reduceCtorEq, Nat.reduceEqDiff, Nat.reduceLT, Nat.reduceLeDiff, Nat.reduceAdd, Nat.reduceMul, Nat.reduceSub, Nat.reduceBEq, Int.reduceToNat, Int.reduceLE, Int.reduceLT, Int.reduceNeg, Nat.reduceMod, sid_ne1, sid_ne2, sid_inj, sid_mod, gT, TK.isInt, TK.agg, Array.toList, h0a, h1a, h5a, hml, hg]
    refine ⟨h, h, askK_of (c_laws_heldIntS (1 + (sumL M i : Int)) (M.getD i []).length (by omega) (by omega) (by omega)) ?_⟩
    have es : 1 + (sumL M i : Int) + (M.getD i []).length = 1 + (sumL M (i + 1) : Int) := by rw [sumL]; omega
    have hn : decide (1 + (sumL M (i + 1) : Int) < 0) = false := decide_eq_false (by omega)
    simp (maxSteps := 5000000) -dsimp only [↓gp, gq, reduceCtorEq, Nat.reduceEqDiff, Nat.reduceLT, Nat.reduceLeDiff, Nat.reduceAdd, Nat.reduceMul, Nat.reduceSub, Nat.reduceBEq, Int.reduceToNat, Int.reduceLE, Int.reduceLT, Int.reduceNeg, Nat.reduceMod, sid_ne1, sid_ne2, sid_inj, sid_mod, gT, TK.isInt, TK.agg, Array.toList, h0a, h1a, h5a, hml, hg, es, hn]
    exact again_of (i + 1) (by refine ⟨?_, ?_, ?_, by omega⟩ <;> (first | (simp (maxSteps := 5000000) -dsimp only [gr, Nat.reduceEqDiff, Nat.reduceLT, Nat.reduceAdd, Nat.reduceMod, Nat.reduceBEq, sid_mod, sid_ne1, sid_ne2, sid_inj, h0a, h1a, h5a, wrap_nat h (by omega), es]; first | done | rfl | (simp; done)) | assumption | rfl)) (by first | omega | (simp only; omega) | (dsimp only; omega) | (show _ < _; simp; omega))
  · have : i = M.length := by omega
    rw [this]
end Go.Proofs.Ytnfpeinbdfmlnaa

namespace Go.Proofs.Ytnfpeinbdfmlnaa
open Go.Abs
set_option linter.unusedSimpArgs false
set_option linter.unusedVariables false

theorem compl_nat {m s : Nat} (hm : m ≤ 6) (hs : s < 2 ^ m) : compl m s = ((2 ^ m - 1 - s : Nat) : Int) := by
  have hin : inSet m s = true := by
    unfold inSet; rw [decide_eq_true_iff, pow_nat]; exact ⟨by omega, by omega, by omega, by omega⟩
  unfold compl
  rw [if_pos hin, pow_nat]; omega
theorem mask_small {w w' : Nat → Bool} {m : Nat} (hm : m ≤ 6) (h : ∀ s, s < 64 → (decide (s < 2 ^ m) && w s) = w' s) : maskF w (2 ^ m) = maskF w' 64 :=
  maskF_full w' (mask_lt64 w hm) fun s hs => by rw [maskF_bit, h s hs]
theorem c_impl_dualIn_1 (m G s : Nat) (hm : m ≤ 6) (hG : G < 18446744073709551616) (hs : s < 2 ^ m) : AC Try.prog 127 [int s, .eref false [u64 G] 0, .eref false [int m] 0] (.im (bool (!G.testBit (2 ^ m - 1 - s)))) := by
  refine AC.go (rs := [.tmp 4]) T_ok mixed Try.func127 rfl rfl rfl (by kernel_rfl) fun hl => ?_
  have h64 := two_pow_le hm
  simp (maxSteps := 5000000) -dsimp only [↓gp, gq, reduceCtorEq, Nat.reduceEqDiff, Nat.reduceLT, Nat.reduceLeDiff, Nat.reduceAdd, Nat.reduceMul, Nat.reduceSub, Nat.reduceBEq, Int.reduceToNat, Int.reduceLE, Int.reduceLT, Int.reduceNeg, Nat.reduceMod, sid_ne1, sid_ne2, sid_inj, sid_mod, gT, TK.isInt, TK.agg, Array.toList]
  refine ⟨by kernel_rfl, askK_of (c_impl_ComplementOf m s) ?_⟩
  rw [compl_nat hm hs]
  simp (maxSteps := 5000000) -dsimp only [↓gp, gq, reduceCtorEq, Nat.reduceEqDiff, Nat.reduceLT, Nat.reduceLeDiff, Nat.reduceAdd, Nat.reduceMul, Nat.reduceSub, Nat.reduceBEq, Int.reduceToNat, Int.reduceLE, Int.reduceLT, Int.reduceNeg, Nat.reduceMod, sid_ne1, sid_ne2, sid_inj, sid_mod, gT, TK.isInt, TK.agg, Array.toList]
  refine askK_of (c_impl_hasSet G _ hG (by omega)) ?_
  simp (maxSteps := 5000000) -dsimp only [↓gp, gq, reduceCtorEq, Nat.reduceEqDiff, Nat.reduceLT, Nat.reduceLeDiff, Nat.reduceAdd, Nat.reduceMul, Nat.reduceSub, Nat.reduceBEq, Int.reduceToNat, Int.reduceLE, Int.reduceLT, Int.reduceNeg, Nat.reduceMod, sid_ne1, sid_ne2, sid_inj, sid_mod, gT, TK.isInt, TK.agg, Array.toList]
theorem c_impl_dualIn (m : Nat) (hm : m ≤ 6) (f : Nat → Bool) : AC Try.prog 86 [int m, u64 (maskF f 64 : Nat)] (.im (u64 (maskF (dualF m f) 64 : Nat))) := by
  refine AC.go (rs := [.tmp 4]) T_ok mixed Try.func86 rfl rfl rfl (by kernel_rfl) fun hl => ?_
  have h64 := two_pow_le hm
  have hlt := maskF_lt f 64
  simp (maxSteps := 5000000) -dsimp only [↓gp, gq, reduceCtorEq, Nat.reduceEqDiff, Nat.reduceLT, Nat.reduceLeDiff, Nat.reduceAdd, Nat.reduceMul, Nat.reduceSub, Nat.reduceBEq, Int.reduceToNat, Int.reduceLE, Int.reduceLT, Int.reduceNeg, Nat.reduceMod, sid_ne1, sid_ne2, sid_inj, sid_mod, gT, TK.isInt, TK.agg, Array.toList]
  refine askK_of (c_impl_pickSets m hm _ [.eref false [u64 (maskF f 64 : Nat)] 0, .eref false [int m] 0] (fun s => !(maskF f 64).testBit (2 ^ m - 1 - s)) (fun rw => rfl) fun s hs => c_impl_dualIn_1 m _ s hm (by omega) hs) ?_
  rw [mask_small (w' := dualF m f) hm fun s hs => by rw [mask_bit64 f (by omega)]; rfl]
  simp (maxSteps := 5000000) -dsimp only [↓gp, gq, reduceCtorEq, Nat.reduceEqDiff, Nat.reduceLT, Nat.reduceLeDiff, Nat.reduceAdd, Nat.reduceMul, Nat.reduceSub, Nat.reduceBEq, Int.reduceToNat, Int.reduceLE, Int.reduceLT, Int.reduceNeg, Nat.reduceMod, sid_ne1, sid_ne2, sid_inj, sid_mod, gT, TK.isInt, TK.agg, Array.toList]
theorem c_impl_linkIn_1 (G s t : Nat) (hG : G < 18446744073709551616) (hs : s < 64) (ht : t < 64) : AC Try.prog 134 [int t, .eref false [int s] 0, .eref false [u64 G] 0] (.im (bool (linkF G.testBit s t))) := by
  refine AC.go (rs := [.tmp 4]) T_ok mixed Try.func134 rfl rfl rfl (by kernel_rfl) fun hl => ?_
  have e1 : iand .i64 (t : Int) (s : Int) = ((t &&& s : Nat) : Int) := iand_nat (by omega) (by omega)
  have e2 : ior .i64 (t : Int) (s : Int) = ((t ||| s : Nat) : Int) := ior_nat (by omega) (by omega)
  have h3 : t ||| s < 64 := Nat.or_lt_two_pow (n := 6) ht hs
  simp (maxSteps := 5000000) -dsimp only [↓gp, gq, reduceCtorEq, Nat.reduceEqDiff, Nat.reduceLT, Nat.reduceLeDiff, Nat.reduceAdd, Nat.reduceMul, Nat.reduceSub, Nat.reduceBEq, Int.reduceToNat, Int.reduceLE, Int.reduceLT, Int.reduceNeg, Nat.reduceMod, sid_ne1, sid_ne2, sid_inj, sid_mod, gT, TK.isInt, TK.agg, Array.toList, e1, e2]
  unfold linkF
  refine ⟨fun h => askK_of (c_impl_hasSet G _ hG h3) ?_, fun h => ?_⟩
  · have h : t &&& s = 0 := by simpa using h
    rw [h]
    simp (maxSteps := 5000000) -dsimp only [↓gp, gq, reduceCtorEq, Nat.reduceEqDiff, Nat.reduceLT, Nat.reduceLeDiff, Nat.reduceAdd, Nat.reduceMul, Nat.reduceSub, Nat.reduceBEq, Int.reduceToNat, Int.reduceLE, Int.reduceLT, Int.reduceNeg, Nat.reduceMod, sid_ne1, sid_ne2, sid_inj, sid_mod, gT, TK.isInt, TK.agg, Array.toList]
  · have h : (t &&& s == 0) = false := by rw [beq_eq_false_iff_ne]; intro e; simp [e] at h
    rw [h]; rfl
theorem c_impl_linkIn (f : Nat → Bool) (s : Nat) (hs : s < 64) : AC Try.prog 90 [u64 (maskF f 64 : Nat), int s] (.im (u64 (maskF (linkF f s) 64 : Nat))) := by
  refine AC.go (rs := [.tmp 4]) T_ok mixed Try.func90 rfl rfl rfl (by kernel_rfl) fun hl => ?_
  have hlt := maskF_lt f 64
  simp (maxSteps := 5000000) -dsimp only [↓gp, gq, reduceCtorEq, Nat.reduceEqDiff, Nat.reduceLT, Nat.reduceLeDiff, Nat.reduceAdd, Nat.reduceMul, Nat.reduceSub, Nat.reduceBEq, Int.reduceToNat, Int.reduceLE, Int.reduceLT, Int.reduceNeg, Nat.reduceMod, sid_ne1, sid_ne2, sid_inj, sid_mod, gT, TK.isInt, TK.agg, Array.toList]
  refine askK_of (c_impl_pickSets 6 (by omega) _ [.eref false [int s] 0, .eref false [u64 (maskF f 64 : Nat)] 0] (linkF (maskF f 64).testBit s) (fun rw => rfl) fun t ht => c_impl_linkIn_1 _ s t (by omega) hs (by omega)) ?_
  rw [mask_small (w' := linkF f s) (by omega) fun t ht => by rw [decide_eq_true (show t < 2 ^ 6 by omega), Bool.true_and]; exact linkF_congr (fun u hu => mask_bit64 f hu) hs ht]
  simp (maxSteps := 5000000) -dsimp only [↓gp, gq, reduceCtorEq, Nat.reduceEqDiff, Nat.reduceLT, Nat.reduceLeDiff, Nat.reduceAdd, Nat.reduceMul, Nat.reduceSub, Nat.reduceBEq, Int.reduceToNat, Int.reduceLE, Int.reduceLT, Int.reduceNeg, Nat.reduceMod, sid_ne1, sid_ne2, sid_inj, sid_mod, gT, TK.isInt, TK.agg, Array.toList]
noncomputable def dtR (n : Int) (xs : List Int) (p : Int) : Mat := if hasF n xs = true ∧ isP p = true then dtT (dualF n.toNat (faceB xs)) p n.toNat else []
theorem dtR_no {n : Int} {xs : List Int} {p : Int} (h : ¬ (hasF n xs = true ∧ isP p = true)) : dtR n xs p = [] := if_neg h
theorem c_impl_DualTable (n : Int) (xs : List Int) (p : Int) : AC Try.prog 43 [.ag [int n, ints xs], int p] (.tb 31 3 ((dtR n xs p).map iL)) := by
  refine AC.go (rs := [.tmp 4]) T_ok mixed Try.func43 rfl rfl rfl (by kernel_rfl) fun hl => ?_
  simp only [lens_cons, lens_nil, and_true, lens2_ag2, lens1_v, lens1_iL, true_and] at hl
  simp (maxSteps := 5000000) -dsimp only [↓gp, gq, reduceCtorEq, Nat.reduceEqDiff, Nat.reduceLT, Nat.reduceLeDiff, Nat.reduceAdd, Nat.reduceMul, Nat.reduceSub, Nat.reduceBEq, Int.reduceToNat, Int.reduceLE, Int.reduceLT, Int.reduceNeg, Nat.reduceMod, sid_ne1, sid_ne2, sid_inj, sid_mod, gT, TK.isInt, TK.agg, Array.toList]
  refine askK_of (c_impl_IsComplex n xs) ?_
  simp (maxSteps := 5000000) -dsimp only [↓gp, gq, reduceCtorEq, Nat.reduceEqDiff, Nat.reduceLT, Nat.reduceLeDiff, Nat.reduceAdd, Nat.reduceMul, Nat.reduceSub, Nat.reduceBEq, Int.reduceToNat, Int.reduceLE, Int.reduceLT, Int.reduceNeg, Nat.reduceMod, sid_ne1, sid_ne2, sid_inj, sid_mod, gT, TK.isInt, TK.agg, Array.toList]
  refine ⟨fun hc => ⟨fun h0 => askK_of (c_impl_IsFieldPrime p) ?_, fun h0 => ?_⟩, fun hc => ?_⟩
  · have hcx : isCx n xs = true := by simpa using hc
    have hh : hasF n xs = true := hasF_iff.2 ⟨hcx, by simp at h0; exact List.length_pos_iff.2 h0⟩
    simp (maxSteps := 5000000) -dsimp only [↓gp, gq, reduceCtorEq, Nat.reduceEqDiff, Nat.reduceLT, Nat.reduceLeDiff, Nat.reduceAdd, Nat.reduceMul, Nat.reduceSub, Nat.reduceBEq, Int.reduceToNat, Int.reduceLE, Int.reduceLT, Int.reduceNeg, Nat.reduceMod, sid_ne1, sid_ne2, sid_inj, sid_mod, gT, TK.isInt, TK.agg, Array.toList]
    refine ⟨fun hp => ?_, fun hp => ?_⟩
    · rw [dtR_no (fun h => by rw [h.2] at hp; cases hp)]
      exact out2_tb0 (by simp (maxSteps := 5000000) -dsimp only [gr, Nat.reduceEqDiff, Nat.reduceLT, Nat.reduceAdd, Nat.reduceMod, Nat.reduceBEq, sid_mod, sid_ne1, sid_ne2, sid_inj]) (by decide)
    · have hp : isP p = true := by simpa using hp
      obtain ⟨h1, h6, _⟩ := isCx_iff.1 hcx
      have hxo := cx_ok hcx
      have hxl := cx_len hcx
      obtain ⟨m, rfl⟩ : ∃ m : Nat, n = m := ⟨n.toNat, by omega⟩
      have hb : dtR m xs p = dtT (dualF m (faceB xs)) p m := if_pos ⟨hh, hp⟩
      rw [hb]
      have h64 := two_pow_le (m := m) (by omega)
      have hE : AC Try.prog 85 [int m] (.tb 31 3 ((List.replicate (m + 1) (List.replicate (m + 1) (0 : Int))).map iL)) := by
        have := c_impl_emptyTable m (by omega)
        rwa [zeroM_map] at this
      have hsq0 := dtP_sq (dualF m (faceB xs)) p m 0
      have hz := zeroM_sq m
      have hset0 : dtP (dualF m (faceB xs)) p m 0 = (List.replicate (m + 1) (List.replicate (m + 1) (0 : Int))).set 0 (((List.replicate (m + 1) (List.replicate (m + 1) (0 : Int))).getD 0 []).set 0 1) := by
        unfold dtP addAt
        congr 2
        try (have := hz.small 0 0; omega)
      have hrl0 := hz.row 0 (by omega)
      have hzl := hz.len
      generalize hZ : List.replicate (m + 1) (List.replicate (m + 1) (0 : Int)) = Z at *
      refine askTab_of hE (fun i hi => by simp (maxSteps := 5000000) -dsimp only [gr, Nat.reduceEqDiff, Nat.reduceLT, Nat.reduceAdd, Nat.reduceMod, Nat.reduceBEq, sid_mod, sid_ne1, sid_ne2, sid_inj]) fun S hS0 hSd0 hSs hSr => ?_
      have hS : TabI S.rw 30 1 31 3 (List.range Z.length) Z := hS0
      have hSd : S.sl 30 = .own 30 1 := hSd0
      have u1 : S.sl 1 = int p := by rw [hSs 1 (by decide)]; simp (maxSteps := 5000000) -dsimp only [gr, Nat.reduceEqDiff, Nat.reduceLT, Nat.reduceAdd, Nat.reduceMod, Nat.reduceBEq, sid_mod, sid_ne1, sid_ne2, sid_inj]
      have u2 : S.sl 2 = .ref 2 1 0 := by rw [hSs 2 (by decide)]; simp (maxSteps := 5000000) -dsimp only [gr, Nat.reduceEqDiff, Nat.reduceLT, Nat.reduceAdd, Nat.reduceMod, Nat.reduceBEq, sid_mod, sid_ne1, sid_ne2, sid_inj]
      have u5 : S.sl 5 = int m := by rw [hSs 5 (by decide)]; simp (maxSteps := 5000000) -dsimp only [gr, Nat.reduceEqDiff, Nat.reduceLT, Nat.reduceAdd, Nat.reduceMod, Nat.reduceBEq, sid_mod, sid_ne1, sid_ne2, sid_inj]
      have w2 : S.rw 2 = ⟨1, .box 57 [int (m : Nat), ints xs]⟩ := by rw [hSr 2 (by decide)]; simp (maxSteps := 5000000) -dsimp only [gr, Nat.reduceEqDiff, Nat.reduceLT, Nat.reduceAdd, Nat.reduceMod, Nat.reduceBEq, sid_mod, sid_ne1, sid_ne2, sid_inj]
      rw [hzl] at hS
      have e0 : (List.range (m + 1)).getD 0 0 = 0 := rangeD (by omega)
      have hrow0 := hS.row (i := 0) (by omega)
      rw [e0] at hrow0
      have htop := hS.top
      clear hSs hSr hS0 hSd0
      simp (maxSteps := 5000000) -dsimp only [↓gp, gq, reduceCtorEq, Nat.reduceEqDiff, Nat.reduceLT, Nat.reduceLeDiff, Nat.reduceAdd, Nat.reduceMul, Nat.reduceSub, Nat.reduceBEq, Int.reduceToNat, Int.reduceLE, Int.reduceLT, Int.reduceNeg, Nat.reduceMod, sid_ne1, sid_ne2, sid_inj, sid_mod, gT, TK.isInt, TK.agg, Array.toList, hSd, u1, u2, u5, w2, htop, ld_cellsT, e0, hrow0, hrl0, cellsT_length, List.length_range]
      refine ⟨by omega, by omega, by omega, askK_of (c_impl_facesIn _ xs hxo) ?_⟩
      simp (maxSteps := 5000000) -dsimp only [↓gp, gq, reduceCtorEq, Nat.reduceEqDiff, Nat.reduceLT, Nat.reduceLeDiff, Nat.reduceAdd, Nat.reduceMul, Nat.reduceSub, Nat.reduceBEq, Int.reduceToNat, Int.reduceLE, Int.reduceLT, Int.reduceNeg, Nat.reduceMod, sid_ne1, sid_ne2, sid_inj, sid_mod, gT, TK.isInt, TK.agg, Array.toList, hSd, u1, u2, u5, w2, htop, ld_cellsT, e0, hrow0, hrl0, cellsT_length, List.length_range]
      refine askK_of (c_impl_dualIn m (by omega) (faceB xs)) ?_
      simp (maxSteps := 5000000) -dsimp only [↓gp, gq, reduceCtorEq, Nat.reduceEqDiff, Nat.reduceLT, Nat.reduceLeDiff, Nat.reduceAdd, Nat.reduceMul, Nat.reduceSub, Nat.reduceBEq, Int.reduceToNat, Int.reduceLE, Int.reduceLT, Int.reduceNeg, Nat.reduceMod, sid_ne1, sid_ne2, sid_inj, sid_mod, gT, TK.isInt, TK.agg, Array.toList, hSd, u1, u2, u5, w2, htop, ld_cellsT, e0, hrow0, hrl0, cellsT_length, List.length_range]
      have hmd := maskF_lt (dualF m (faceB xs)) 64
      have eord : ordN (maskF (dualF m (faceB xs)) 64).testBit = ordN (dualF m (faceB xs)) := ordN_congr fun s hs => mask_bit64 _ hs
      have hSI := c_impl_setsIn (maskF (dualF m (faceB xs)) 64) (by omega)
      rw [eord] at hSI
      refine askK_of hSI ?_
      have hLl := ordN_len (dualF m (faceB xs))
      have hLm := fun k (hk : k < (ordN (dualF m (faceB xs))).length) => mem_ordN.1 (getD_mem 0 hk)
      have hdt := dtP_sq (dualF m (faceB xs)) p m
      have hstep : ∀ k, dtP (dualF m (faceB xs)) p m (k + 1) = addD (dtP (dualF m (faceB xs)) p m k) m (m - popN ((ordN (dualF m (faceB xs))).getD k 0)) (holF (linkF (dualF m (faceB xs)) ((ordN (dualF m (faceB xs))).getD k 0)) p) (dimN (linkF (dualF m (faceB xs)) ((ordN (dualF m (faceB xs))).getD k 0))) := fun _ => rfl
      unfold dtT
      generalize hL : ordN (dualF m (faceB xs)) = L at *
      simp (maxSteps := 5000000) -dsimp only [↓gp, gq, reduceCtorEq, Nat.reduceEqDiff, Nat.reduceLT, Nat.reduceLeDiff, Nat.reduceAdd, Nat.reduceMul, Nat.reduceSub, Nat.reduceBEq, Int.reduceToNat, Int.reduceLE, Int.reduceLT, Int.reduceNeg, Nat.reduceMod, sid_ne1, sid_ne2, sid_inj, sid_mod, gT, TK.isInt, TK.agg, Array.toList, hSd, u1, u2, u5, w2, htop, ld_cellsT, e0, hrow0, hrl0, cellsT_length, List.length_range, ofN_length]
      refine loop_of (fun (zb : Nat × Nat) s => match zb with | (k, v) => s.sl 1 = int p ∧ s.sl 2 = .ref 2 1 0 ∧ s.rw 2 = ⟨1, .box 57 [int (m : Nat), ints xs]⟩ ∧ s.sl 5 = int m ∧ s.sl 6 = .own 30 1 ∧ s.sl 7 = u64 (maskF (dualF m (faceB xs)) 64 : Nat) ∧ s.sl 40 = .own 40 v ∧ s.rw 40 = ⟨v, .sli 3 1 false (iL (ofN L))⟩ ∧ s.sl 41 = int L.length ∧ s.sl 42 = int k ∧ (k ≤ L.length ∧ TabI s.rw 30 1 31 3 (List.range (m + 1)) (dtP (dualF m (faceB xs)) p m k))) (fun (k, v) => L.length - k) ((0, (S.rw 40).ver + 1)) (by refine ⟨?_, ?_, ?_, ?_, ?_, ?_, ?_, ?_, ?_, ?_, ⟨Nat.zero_le _, by rw [hset0]; exact hS.set (i := 0) (by omega) (by simp (maxSteps := 5000000) -dsimp only [gr, Nat.reduceEqDiff, Nat.reduceLT, Nat.reduceAdd, Nat.reduceMod, Nat.reduceBEq, sid_mod, sid_ne1, sid_ne2, sid_inj]) (by simp (maxSteps := 5000000) -dsimp only [gr, Nat.reduceEqDiff, Nat.reduceLT, Nat.reduceAdd, Nat.reduceMod, Nat.reduceBEq, sid_mod, sid_ne1, sid_ne2, sid_inj, e0, htop, hrow0]) (fun x hx => by simp (maxSteps := 5000000) -dsimp only [gr, Nat.reduceEqDiff, Nat.reduceLT, Nat.reduceAdd, Nat.reduceMod, Nat.reduceBEq, sid_mod, sid_ne1, sid_ne2, sid_inj, e0 ▸ hx])⟩⟩ <;> (first | (simp (maxSteps := 5000000) -dsimp only [gr, Nat.reduceEqDiff, Nat.reduceLT, Nat.reduceAdd, Nat.reduceMod, Nat.reduceBEq, sid_mod, sid_ne1, sid_ne2, sid_inj, hSd, u1, u2, u5, w2, ofN_length]; first | done | rfl | (simp; done)) | assumption | rfl)) ?_
      intro (k, v) sb ⟨h1b, h2b, r2b, h5b, h6b, h7b, h40b, r40b, h41b, h42b, hIb⟩
      obtain ⟨hk, hb2⟩ := hIb
      simp (maxSteps := 5000000) -dsimp only [↓gp, gq, reduceCtorEq, Nat.reduceEqDiff, Nat.reduceLT, Nat.reduceLeDiff, Nat.reduceAdd, Nat.reduceMul, Nat.reduceSub, Nat.reduceBEq, Int.reduceToNat, Int.reduceLE, Int.reduceLT, Int.reduceNeg, Nat.reduceMod, sid_ne1, sid_ne2, sid_inj, sid_mod, gT, TK.isInt, TK.agg, Array.toList, h1b, h2b, r2b, h5b, h6b, h7b, h40b, r40b, h41b, h42b, ofN_length]
      refine ⟨fun h2 => ?_, fun h2 => ?_⟩
      · obtain ⟨hs64, hsd⟩ := hLm k h2
        have hsm2 : L.getD k 0 < 2 ^ m := by
          unfold dualF at hsd
          rw [Bool.and_eq_true, decide_eq_true_iff] at hsd
          exact hsd.1
        have hg := ofN_getD h2
        have hstepk := hstep k
        have hsqk := hdt k
        generalize hs0 : L.getD k 0 = s0 at *
        have hpn := pop_le_n (n := m) (by omega) hsm2
        have hzz := szOf_nat hs64
        refine ⟨by omega, by omega, ?_⟩
        simp (maxSteps := 5000000) -dsimp only [↓gp, gq, reduceCtorEq, Nat.reduceEqDiff, Nat.reduceLT, Nat.reduceLeDiff, Nat.reduceAdd, Nat.reduceMul, Nat.reduceSub, Nat.reduceBEq, Int.reduceToNat, Int.reduceLE, Int.reduceLT, Int.reduceNeg, Nat.reduceMod, sid_ne1, sid_ne2, sid_inj, sid_mod, gT, TK.isInt, TK.agg, Array.toList, h1b, h2b, r2b, h5b, h6b, h7b, h40b, r40b, h41b, h42b, ofN_length, hg]
        refine askK_of (c_impl_SizeOf _) ?_
        have hw0 : IntKind.i64.wrap ((m : Int) - (popN s0 : Int)) = ((m - popN s0 : Nat) : Int) := by rw [wrap_id (by omega) (by omega)]; omega
        simp (maxSteps := 5000000) -dsimp only [↓gp, gq, reduceCtorEq, Nat.reduceEqDiff, Nat.reduceLT, Nat.reduceLeDiff, Nat.reduceAdd, Nat.reduceMul, Nat.reduceSub, Nat.reduceBEq, Int.reduceToNat, Int.reduceLE, Int.reduceLT, Int.reduceNeg, Nat.reduceMod, sid_ne1, sid_ne2, sid_inj, sid_mod, gT, TK.isInt, TK.agg, Array.toList, h1b, h2b, r2b, h5b, h6b, h7b, h40b, r40b, h41b, h42b, ofN_length, hg, hzz, hw0]
        refine askK_of (c_impl_linkIn _ s0 hs64) ?_
        simp (maxSteps := 5000000) -dsimp only [↓gp, gq, reduceCtorEq, Nat.reduceEqDiff, Nat.reduceLT, Nat.reduceLeDiff, Nat.reduceAdd, Nat.reduceMul, Nat.reduceSub, Nat.reduceBEq, Int.reduceToNat, Int.reduceLE, Int.reduceLT, Int.reduceNeg, Nat.reduceMod, sid_ne1, sid_ne2, sid_inj, sid_mod, gT, TK.isInt, TK.agg, Array.toList, h1b, h2b, r2b, h5b, h6b, h7b, h40b, r40b, h41b, h42b, ofN_length, hg, hzz, hw0]
        refine askK_of (c_impl_holesIn _ p hp) ?_
        have hsm := hol_small (linkF (dualF m (faceB xs)) s0) p
        have hdl := dimN_le (linkF (dualF m (faceB xs)) s0)
        have hhl := holF_length (linkF (dualF m (faceB xs)) s0) p
        generalize hhs : holF (linkF (dualF m (faceB xs)) s0) p = hs at *
        generalize hjj : m - popN s0 = jj at *
        generalize dtP (dualF m (faceB xs)) p m k = M0 at *
        have hsq := fun i => addD_sq (m := m) (j := jj) hsqk hsm i
        simp (maxSteps := 5000000) -dsimp only [↓gp, gq, reduceCtorEq, Nat.reduceEqDiff, Nat.reduceLT, Nat.reduceLeDiff, Nat.reduceAdd, Nat.reduceMul, Nat.reduceSub, Nat.reduceBEq, Int.reduceToNat, Int.reduceLE, Int.reduceLT, Int.reduceNeg, Nat.reduceMod, sid_ne1, sid_ne2, sid_inj, sid_mod, gT, TK.isInt, TK.agg, Array.toList, h1b, h2b, r2b, h5b, h6b, h7b, h40b, r40b, h41b, h42b, ofN_length, hg, hzz, hw0]
        refine loop_of (fun (zc : Nat × Nat) s => match zc with | (i, u) => s.sl 1 = int p ∧ s.sl 2 = .ref 2 1 0 ∧ s.rw 2 = ⟨1, .box 57 [int (m : Nat), ints xs]⟩ ∧ s.sl 5 = int m ∧ s.sl 6 = .own 30 1 ∧ s.sl 7 = u64 (maskF (dualF m (faceB xs)) 64 : Nat) ∧ s.sl 10 = int jj ∧ s.sl 40 = .own 40 v ∧ s.rw 40 = ⟨v, .sli 3 1 false (iL (ofN L))⟩ ∧ s.sl 41 = int L.length ∧ s.sl 42 = int k ∧ s.sl 54 = .own 54 u ∧ s.rw 54 = ⟨u, .sli 3 1 false (iL hs)⟩ ∧ s.sl 55 = int hs.length ∧ s.sl 56 = int i ∧ (i ≤ hs.length ∧ TabI s.rw 30 1 31 3 (List.range (m + 1)) (addD M0 m jj hs i))) (fun (i, u) => hs.length - i) ((0, (sb.rw 54).ver + 1)) (by refine ⟨?_, ?_, ?_, ?_, ?_, ?_, ?_, ?_, ?_, ?_, ?_, ?_, ?_, ?_, ?_, ⟨by omega, hb2.same (by simp (maxSteps := 5000000) -dsimp only [gr, Nat.reduceEqDiff, Nat.reduceLT, Nat.reduceAdd, Nat.reduceMod, Nat.reduceBEq, sid_mod, sid_ne1, sid_ne2, sid_inj]) (fun x => by simp (maxSteps := 5000000) -dsimp only [gr, Nat.reduceEqDiff, Nat.reduceLT, Nat.reduceAdd, Nat.reduceMod, Nat.reduceBEq, sid_mod, sid_ne1, sid_ne2, sid_inj])⟩⟩ <;> (first | (simp (maxSteps := 5000000) -dsimp only [gr, Nat.reduceEqDiff, Nat.reduceLT, Nat.reduceAdd, Nat.reduceMod, Nat.reduceBEq, sid_mod, sid_ne1, sid_ne2, sid_inj, h1b, h2b, r2b, h5b, h6b, h7b, h40b, r40b, h41b, h42b]; first | done | rfl | (simp; done)) | assumption | rfl)) ?_
        intro (i, u) sc ⟨h1c, h2c, r2c, h5c, h6c, h7c, h10c, h40c, r40c, h41c, h42c, h54c, r54c, h55c, h56c, hIc⟩
        obtain ⟨hi, hb3⟩ := hIc
        by_cases h3 : i < hs.length
        · have hwi : IntKind.i64.wrap ((i : Int) + 1) = ((i + 1 : Nat) : Int) := by rw [wrap_id (by omega) (by omega)]; omega
          by_cases h4 : i + 1 ≤ m
          · have hsq := hsq i
            have hs1 := hsq.small (i + 1) jj
            have hs2 := hsm i
            have hml := hsq.len
            have hrl := hsq.row (i + 1) (by omega)
            have hadd : addD M0 m jj hs (i + 1) = addAt (addD M0 m jj hs i) (i + 1) jj (hs.getD i 0) := by rw [addD, if_pos h4]
            generalize addD M0 m jj hs i = M at *
            have e1 : (List.range (m + 1)).getD (i + 1) 0 = i + 1 := rangeD (by omega)
            have hrow := hb3.row (i := i + 1) (by omega)
            rw [e1] at hrow
            have hw2 : IntKind.i64.wrap ((M.getD (i + 1) []).getD jj 0 + hs.getD i 0) = (M.getD (i + 1) []).getD jj 0 + hs.getD i 0 := wrap_id (by omega) (by omega)
            simp (maxSteps := 5000000) -dsimp only [↓gp, gq, reduceCtorEq, Nat.reduceEqDiff, Nat.reduceLT, Nat.reduceLeDiff, Nat.reduceAdd, Nat.reduceMul, Nat.reduceSub, Nat.reduceBEq, Int.reduceToNat, Int.reduceLE, Int.reduceLT, Int.reduceNeg, Nat.reduceMod, sid_ne1, sid_ne2, sid_inj, sid_mod, gT, TK.isInt, TK.agg, Array.toList, h1c, h2c, r2c, h5c, h6c, h7c, h10c, h40c, r40c, h41c, h42c, h54c, r54c, h55c, h56c, hwi, hb3.top, ld_cellsT, e1, hrow, hrl, cellsT_length, List.length_range, hw2]
            refine ⟨fun _ => ⟨h3, h3, fun _ => ⟨by omega, by omega, by omega, by omega, by omega, by omega, ?_⟩, fun h => absurd h4 h⟩, fun h => absurd h3 h⟩
            exact again_of ((i + 1, u)) (by refine ⟨?_, ?_, ?_, ?_, ?_, ?_, ?_, ?_, ?_, ?_, ?_, ?_, ?_, ?_, ?_, ⟨by dsimp only; omega, by
                dsimp only
                rw [hadd]
                exact hb3.set (i := i + 1) (by omega) (by simp (maxSteps := 5000000) -dsimp only [gr, Nat.reduceEqDiff, Nat.reduceLT, Nat.reduceAdd, Nat.reduceMod, Nat.reduceBEq, sid_mod, sid_ne1, sid_ne2, sid_inj]) (by simp (maxSteps := 5000000) -dsimp only [gr, Nat.reduceEqDiff, Nat.reduceLT, Nat.reduceAdd, Nat.reduceMod, Nat.reduceBEq, sid_mod, sid_ne1, sid_ne2, sid_inj, e1, h1c, h2c, r2c, h5c, h6c, h7c, h10c, h40c, r40c, h41c, h42c, h54c, r54c, h55c, h56c, hb3.top, hrow]) (fun x hx => by simp (maxSteps := 5000000) -dsimp only [gr, Nat.reduceEqDiff, Nat.reduceLT, Nat.reduceAdd, Nat.reduceMod, Nat.reduceBEq, sid_mod, sid_ne1, sid_ne2, sid_inj, e1 ▸ hx])⟩⟩ <;> (first | (simp (maxSteps := 5000000) -dsimp only [gr, Nat.reduceEqDiff, Nat.reduceLT, Nat.reduceAdd, Nat.reduceMod, Nat.reduceBEq, sid_mod, sid_ne1, sid_ne2, sid_inj, h1c, h2c, r2c, h5c, h6c, h7c, h10c, h40c, r40c, h41c, h42c, h54c, r54c, h55c, h56c, wrap_nat h3 (by omega)]; first | done | rfl | (simp; done)) | assumption | rfl)) (by first | omega | (simp only; omega) | (dsimp only; omega) | (show _ < _; simp; omega))
          · have hadd : addD M0 m jj hs (i + 1) = addD M0 m jj hs i := by rw [addD, if_neg h4]
            simp (maxSteps := 5000000) -dsimp only [↓gp, gq, reduceCtorEq, Nat.reduceEqDiff, Nat.reduceLT, Nat.reduceLeDiff, Nat.reduceAdd, Nat.reduceMul, Nat.reduceSub, Nat.reduceBEq, Int.reduceToNat, Int.reduceLE, Int.reduceLT, Int.reduceNeg, Nat.reduceMod, sid_ne1, sid_ne2, sid_inj, sid_mod, gT, TK.isInt, TK.agg, Array.toList, h1c, h2c, r2c, h5c, h6c, h7c, h10c, h40c, r40c, h41c, h42c, h54c, r54c, h55c, h56c, hwi]
            refine ⟨fun _ => ⟨h3, h3, fun h => absurd h h4, fun _ => ?_⟩, fun h => absurd h3 h⟩
            exact again_of ((i + 1, u)) (by refine ⟨?_, ?_, ?_, ?_, ?_, ?_, ?_, ?_, ?_, ?_, ?_, ?_, ?_, ?_, ?_, ⟨by dsimp only; omega, by
                dsimp only
                rw [hadd]
                exact hb3.same (by simp (maxSteps := 5000000) -dsimp only [gr, Nat.reduceEqDiff, Nat.reduceLT, Nat.reduceAdd, Nat.reduceMod, Nat.reduceBEq, sid_mod, sid_ne1, sid_ne2, sid_inj]) (fun x => by simp (maxSteps := 5000000) -dsimp only [gr, Nat.reduceEqDiff, Nat.reduceLT, Nat.reduceAdd, Nat.reduceMod, Nat.reduceBEq, sid_mod, sid_ne1, sid_ne2, sid_inj])⟩⟩ <;> (first | (simp (maxSteps := 5000000) -dsimp only [gr, Nat.reduceEqDiff, Nat.reduceLT, Nat.reduceAdd, Nat.reduceMod, Nat.reduceBEq, sid_mod, sid_ne1, sid_ne2, sid_inj, h1c, h2c, r2c, h5c, h6c, h7c, h10c, h40c, r40c, h41c, h42c, h54c, r54c, h55c, h56c, wrap_nat h3 (by omega)]; first | done | rfl | (simp; done)) | assumption | rfl)) (by first | omega | (simp only; omega) | (dsimp only; omega) | (show _ < _; simp; omega))
        · have e : addD M0 m jj hs i = dtP (dualF m (faceB xs)) p m (k + 1) := by
            rw [hstepk, ← hhl, show i = hs.length by omega]
          rw [e] at hb3
          simp (maxSteps := 5000000) -dsimp only [↓gp, gq, reduceCtorEq, Nat.reduceEqDiff, Nat.reduceLT, Nat.reduceLeDiff, Nat.reduceAdd, Nat.reduceMul, Nat.reduceSub, Nat.reduceBEq, Int.reduceToNat, Int.reduceLE, Int.reduceLT, Int.reduceNeg, Nat.reduceMod, sid_ne1, sid_ne2, sid_inj, sid_mod, gT, TK.isInt, TK.agg, Array.toList, h1c, h2c, r2c, h5c, h6c, h7c, h10c, h40c, r40c, h41c, h42c, h54c, r54c, h55c, h56c]
          refine ⟨fun h => absurd h h3, fun _ => ?_⟩
          exact again_of ((k + 1, v)) (by refine ⟨?_, ?_, ?_, ?_, ?_, ?_, ?_, ?_, ?_, ?_, ⟨by dsimp only; omega, hb3.same (by simp (maxSteps := 5000000) -dsimp only [gr, Nat.reduceEqDiff, Nat.reduceLT, Nat.reduceAdd, Nat.reduceMod, Nat.reduceBEq, sid_mod, sid_ne1, sid_ne2, sid_inj]) (fun x => by simp (maxSteps := 5000000) -dsimp only [gr, Nat.reduceEqDiff, Nat.reduceLT, Nat.reduceAdd, Nat.reduceMod, Nat.reduceBEq, sid_mod, sid_ne1, sid_ne2, sid_inj])⟩⟩ <;> (first | (simp (maxSteps := 5000000) -dsimp only [gr, Nat.reduceEqDiff, Nat.reduceLT, Nat.reduceAdd, Nat.reduceMod, Nat.reduceBEq, sid_mod, sid_ne1, sid_ne2, sid_inj, h1b, h2b, r2b, h5b, h6b, h7b, h40b, r40b, h41b, h42b, h1c, h2c, r2c, h5c, h6c, h7c, h10c, h40c, r40c, h41c, h42c, h54c, r54c, h55c, h56c, wrap_nat h2 (by omega)]; first | done | rfl | (simp; done)) | assumption | rfl)) (by first | omega | (simp only; omega) | (dsimp only; omega) | (show _ < _; simp; omega))
      · have : k = L.length := by omega
        subst this
        exact out2_tabI hb2 (by decide) (fun j hj => by have := List.mem_range.1 hj; omega)
  · rw [dtR_no (fun h => by first | (have q := (hasF_iff.1 h.1).2; simp at h0; simp [h0] at q; done) | (rw [(hasF_iff.1 h.1).1] at hc; cases hc))]
    exact out2_tb0 (by simp (maxSteps := 5000000) -dsimp only [gr, Nat.reduceEqDiff, Nat.reduceLT, Nat.reduceAdd, Nat.reduceMod, Nat.reduceBEq, sid_mod, sid_ne1, sid_ne2, sid_inj]) (by decide)
  · rw [dtR_no (fun h => by first | (have q := (hasF_iff.1 h.1).2; simp at h0; simp [h0] at q; done) | (rw [(hasF_iff.1 h.1).1] at hc; cases hc))]
    exact out2_tb0 (by simp (maxSteps := 5000000) -dsimp only [gr, Nat.reduceEqDiff, Nat.reduceLT, Nat.reduceAdd, Nat.reduceMod, Nat.reduceBEq, sid_mod, sid_ne1, sid_ne2, sid_inj]) (by decide)
end Go.Proofs.Ytnfpeinbdfmlnaa
