/- DERIVED by an AI agent. -/
import Derived.Test.YtnfpeinbdfmlnaaQ5
namespace Go.Proofs.Ytnfpeinbdfmlnaa
open Go.Abs
set_option linter.unusedSimpArgs false
set_option linter.unusedVariables false

theorem linO_no {n : Int} {xs : List Int} {p d : Int} (hp : isP p = false) : linO n xs p d = false := by
  unfold linO
  rw [betR_no (fun h => by rw [h.2] at hp; cases hp)]; rfl
noncomputable def ligO (n : Int) (xs : List Int) (p : Int) : Bool := isGraph n xs && decide (0 < xs.length) && linO n (apL n xs) p 2
theorem c_spec_IsLinearGraph (n : Int) (xs : List Int) (p : Int) : AC Try.prog 50 [.ag [int n, ints xs], int p] (.im (bool (ligO n xs p))) := by
  refine AC.go (rs := [.tmp 4]) T_ok mixed Try.func50 rfl rfl rfl (by kernel_rfl) fun hl => ?_
  simp (maxSteps := 5000000) -dsimp only [↓gp, gq, reduceCtorEq, Nat.reduceEqDiff, Nat.reduceLT, Nat.reduceLeDiff, Nat.reduceAdd, Nat.reduceMul, Nat.reduceSub, Nat.reduceBEq, Int.reduceToNat, Int.reduceLE, Int.reduceLT, Int.reduceNeg, Nat.reduceMod, sid_ne1, sid_ne2, sid_inj, sid_mod, gT, TK.isInt, TK.agg, Array.toList]
  refine askK_of (c_spec_ApartComplex n xs) ?_
  simp (maxSteps := 5000000) -dsimp only [↓gp, gq, reduceCtorEq, Nat.reduceEqDiff, Nat.reduceLT, Nat.reduceLeDiff, Nat.reduceAdd, Nat.reduceMul, Nat.reduceSub, Nat.reduceBEq, Int.reduceToNat, Int.reduceLE, Int.reduceLT, Int.reduceNeg, Nat.reduceMod, sid_ne1, sid_ne2, sid_inj, sid_mod, gT, TK.isInt, TK.agg, Array.toList]
  unfold ligO
  refine ⟨fun hg => ?_, fun hg => ?_⟩
  · have hg : isGraph n xs = true := by simpa using hg
    have en : apN n xs = n := if_pos hg
    rw [en, hg]
    simp (maxSteps := 5000000) -dsimp only [↓gp, gq, reduceCtorEq, Nat.reduceEqDiff, Nat.reduceLT, Nat.reduceLeDiff, Nat.reduceAdd, Nat.reduceMul, Nat.reduceSub, Nat.reduceBEq, Int.reduceToNat, Int.reduceLE, Int.reduceLT, Int.reduceNeg, Nat.reduceMod, sid_ne1, sid_ne2, sid_inj, sid_mod, gT, TK.isInt, TK.agg, Array.toList]
    refine ⟨fun hx => askK_of (c_spec_HasLinear n (apL n xs) p 2) ?_, fun hx => ?_⟩
    · simp (maxSteps := 5000000) -dsimp only [↓gp, gq, reduceCtorEq, Nat.reduceEqDiff, Nat.reduceLT, Nat.reduceLeDiff, Nat.reduceAdd, Nat.reduceMul, Nat.reduceSub, Nat.reduceBEq, Int.reduceToNat, Int.reduceLE, Int.reduceLT, Int.reduceNeg, Nat.reduceMod, sid_ne1, sid_ne2, sid_inj, sid_mod, gT, TK.isInt, TK.agg, Array.toList]
      have hx : 0 < xs.length := by omega
      simp [hx]
    · have hx : ¬ 0 < xs.length := by omega
      simp [hx]
  · have hg : isGraph n xs = false := by simpa using hg
    rw [hg]; rfl
theorem c_impl_IsLinearGraph (n : Int) (xs : List Int) (p : Int) : AC Try.prog 52 [.ag [int n, ints xs], int p] (.im (bool (ligO n xs p))) := by
  refine AC.go (rs := [.tmp 4]) T_ok mixed Try.func52 rfl rfl rfl (by kernel_rfl) fun hl => ?_
  simp (maxSteps := 5000000) -dsimp only [↓gp, gq, reduceCtorEq, Nat.reduceEqDiff, Nat.reduceLT, Nat.reduceLeDiff, Nat.reduceAdd, Nat.reduceMul, Nat.reduceSub, Nat.reduceBEq, Int.reduceToNat, Int.reduceLE, Int.reduceLT, Int.reduceNeg, Nat.reduceMod, sid_ne1, sid_ne2, sid_inj, sid_mod, gT, TK.isInt, TK.agg, Array.toList]
  refine askK_of (c_impl_ApartComplex n xs) ?_
  simp (maxSteps := 5000000) -dsimp only [↓gp, gq, reduceCtorEq, Nat.reduceEqDiff, Nat.reduceLT, Nat.reduceLeDiff, Nat.reduceAdd, Nat.reduceMul, Nat.reduceSub, Nat.reduceBEq, Int.reduceToNat, Int.reduceLE, Int.reduceLT, Int.reduceNeg, Nat.reduceMod, sid_ne1, sid_ne2, sid_inj, sid_mod, gT, TK.isInt, TK.agg, Array.toList]
  unfold ligO
  refine ⟨fun hg => ?_, fun hg => ?_⟩
  · have hg : isGraph n xs = true := by simpa using hg
    have en : apN n xs = n := if_pos hg
    rw [en, hg]
    simp (maxSteps := 5000000) -dsimp only [↓gp, gq, reduceCtorEq, Nat.reduceEqDiff, Nat.reduceLT, Nat.reduceLeDiff, Nat.reduceAdd, Nat.reduceMul, Nat.reduceSub, Nat.reduceBEq, Int.reduceToNat, Int.reduceLE, Int.reduceLT, Int.reduceNeg, Nat.reduceMod, sid_ne1, sid_ne2, sid_inj, sid_mod, gT, TK.isInt, TK.agg, Array.toList]
    refine ⟨fun hx => askK_of (c_impl_IsFieldPrime p) ?_, fun hx => ?_⟩
    · have hx : 0 < xs.length := by omega
      simp (maxSteps := 5000000) -dsimp only [↓gp, gq, reduceCtorEq, Nat.reduceEqDiff, Nat.reduceLT, Nat.reduceLeDiff, Nat.reduceAdd, Nat.reduceMul, Nat.reduceSub, Nat.reduceBEq, Int.reduceToNat, Int.reduceLE, Int.reduceLT, Int.reduceNeg, Nat.reduceMod, sid_ne1, sid_ne2, sid_inj, sid_mod, gT, TK.isInt, TK.agg, Array.toList]
      refine ⟨fun hp => askK_of (c_impl_HasLinear n (apL n xs) p 2) ?_, fun hp => ?_⟩
      · simp (maxSteps := 5000000) -dsimp only [↓gp, gq, reduceCtorEq, Nat.reduceEqDiff, Nat.reduceLT, Nat.reduceLeDiff, Nat.reduceAdd, Nat.reduceMul, Nat.reduceSub, Nat.reduceBEq, Int.reduceToNat, Int.reduceLE, Int.reduceLT, Int.reduceNeg, Nat.reduceMod, sid_ne1, sid_ne2, sid_inj, sid_mod, gT, TK.isInt, TK.agg, Array.toList]
        simp [hx]
      · rw [linO_no (by simpa using hp)]; simp
    · have hx : ¬ 0 < xs.length := by omega
      simp [hx]
  · have hg : isGraph n xs = false := by simpa using hg
    rw [hg]; rfl
end Go.Proofs.Ytnfpeinbdfmlnaa
