/- DERIVED by an AI agent. -/
import Derived.Test.YtnfpeinbdfmlnaaQ2
import Derived.Test.YtnfpeinbdfmlnaaA14
namespace Go.Proofs.Ytnfpeinbdfmlnaa
open Go.Abs
set_option linter.unusedSimpArgs false
set_option linter.unusedVariables false

/-- The exponents with a number. -/
def expo (n : Nat) : List Int := [((n / 9 : Nat) : Int), ((n / 3 % 3 : Nat) : Int), ((n % 3 : Nat) : Int)]
def inP (l : List (List Int)) (x : List Int) : Bool := l.any fun r => decide (r = x)
def leP (l : List (List Int)) (x : List Int) : Bool := l.all fun r => decide (r = x) || !div3 r x
def mkO (l : List (List Int)) : Nat → List (List Int)
  | 0 => []
  | i + 1 => if inP l (expo (26 - i)) = true ∧ leP l (expo (26 - i)) = true then mkO l i ++ [expo (26 - i)] else mkO l i
theorem mkO_len (l : List (List Int)) : ∀ i, (mkO l i).length ≤ i := by
  intro i
  induction i with
  | zero => exact Nat.le_refl _
  | succ i ih => unfold mkO; split; rw [List.length_append]; simp; exact ih; omega
def allP (l : List (List Int)) : Bool := l.all isPow
noncomputable def mkV (l : List (List Int)) : List (List Int) := if allP l = true ∧ p19 (mkO l 27) = true then mkO l 27 else []
noncomputable def mkB (l : List (List Int)) : Bool := allP l && p19 (mkO l 27)
theorem c_spec_l2Same (xs ys : List Int) : AC Try.prog 69 [ints xs, ints ys] (.im (bool (decide (xs = ys)))) := by
  refine AC.go (rs := [.tmp 4]) T_ok mixed Try.func69 rfl rfl rfl (by kernel_rfl) fun hl => ?_
  simp only [lens_cons, lens2_iL, lens_nil, and_true] at hl
  simp (maxSteps := 5000000) -dsimp only [↓gp, gq, reduceCtorEq, Nat.reduceEqDiff, Nat.reduceLT, Nat.reduceLeDiff, Nat.reduceAdd, Nat.reduceMul, Nat.reduceSub, Nat.reduceBEq, Int.reduceToNat, Int.reduceLE, Int.reduceLT, Int.reduceNeg, Nat.reduceMod, sid_ne1, sid_ne2, sid_inj, sid_mod, gT, TK.isInt, TK.agg, Array.toList]
  refine ⟨fun h => ?_, fun h => ?_⟩
  · intro e
    simp [e] at h
  · have hn : xs.length = ys.length := by simp at h; omega
    refine loop_of (fun (i : Nat) s => s.sl 0 = ints xs ∧ s.sl 1 = ints ys ∧ s.sl 5 = int i ∧ i ≤ xs.length ∧ xs.take i = ys.take i) (fun i => xs.length - i) 0 ⟨by simp (maxSteps := 5000000) -dsimp only [gr, Nat.reduceEqDiff, Nat.reduceLT, Nat.reduceAdd, Nat.reduceMod, Nat.reduceBEq, sid_mod, sid_ne1, sid_ne2, sid_inj], by simp (maxSteps := 5000000) -dsimp only [gr, Nat.reduceEqDiff, Nat.reduceLT, Nat.reduceAdd, Nat.reduceMod, Nat.reduceBEq, sid_mod, sid_ne1, sid_ne2, sid_inj], by simp (maxSteps := 5000000) -dsimp only [gr, Nat.reduceEqDiff, Nat.reduceLT, Nat.reduceAdd, Nat.reduceMod, Nat.reduceBEq, sid_mod, sid_ne1, sid_ne2, sid_inj]; rfl, by simp, by simp⟩ ?_
    intro i s1 ⟨h0, h1, h5, hi, hall⟩
    simp (maxSteps := 5000000) -dsimp only [↓gp, gq, reduceCtorEq, Nat.reduceEqDiff, Nat.reduceLT, Nat.reduceLeDiff, Nat.reduceAdd, Nat.reduceMul, Nat.reduceSub, Nat.reduceBEq, Int.reduceToNat, Int.reduceLE, Int.reduceLT, Int.reduceNeg, Nat.reduceMod, sid_ne1, sid_ne2, sid_inj, sid_mod, gT, TK.isInt, TK.agg, Array.toList, h0, h1, h5]
    refine ⟨fun h => ⟨by kernel_rfl, h, h, by omega, by omega, fun ha => ?_, fun ha => ?_⟩, fun h => ?_⟩
    · intro e
      simp [e] at ha
    · refine again_of (i + 1) ⟨by simp (maxSteps := 5000000) -dsimp only [gr, Nat.reduceEqDiff, Nat.reduceLT, Nat.reduceAdd, Nat.reduceMod, Nat.reduceBEq, sid_mod, sid_ne1, sid_ne2, sid_inj, h0], by simp (maxSteps := 5000000) -dsimp only [gr, Nat.reduceEqDiff, Nat.reduceLT, Nat.reduceAdd, Nat.reduceMod, Nat.reduceBEq, sid_mod, sid_ne1, sid_ne2, sid_inj, h1], by simp (maxSteps := 5000000) -dsimp only [gr, Nat.reduceEqDiff, Nat.reduceLT, Nat.reduceAdd, Nat.reduceMod, Nat.reduceBEq, sid_mod, sid_ne1, sid_ne2, sid_inj]; rw [wrap_nat h hl.1], h, ?_⟩ (by omega)
      rw [take_snoc 0 h, take_snoc 0 (show i < ys.length by omega), hall]
      simp at ha
      simpa using ha
    · rw [List.take_of_length_le (by omega), List.take_of_length_le (by omega)] at hall
      exact hall
theorem c_spec_MakePowers (l : List (List Int)) (hx : l.length ≤ 1048576) : AC Try.prog 25 [int2 l] (.tup [.ag [.tb 31 3 ((mkV l).map iL)], .im (bool (mkB l))]) := by
  refine AC.go (rs := [.cell 2 27, .tmp 3]) T_ok mixed Try.func25 rfl rfl rfl (by kernel_rfl) fun hl => ?_
  simp (maxSteps := 5000000) -dsimp only [↓gp, gq, reduceCtorEq, Nat.reduceEqDiff, Nat.reduceLT, Nat.reduceLeDiff, Nat.reduceAdd, Nat.reduceMul, Nat.reduceSub, Nat.reduceBEq, Int.reduceToNat, Int.reduceLE, Int.reduceLT, Int.reduceNeg, Nat.reduceMod, sid_ne1, sid_ne2, sid_inj, sid_mod, gT, TK.isInt, TK.agg, Array.toList]
  refine loop_of (fun (k : Nat) s => s.sl 0 = int2 l ∧ s.sl 2 = .ref 2 1 0 ∧ s.rw 2 = ⟨1, .box 27 [.v (.slice none 0 0)]⟩ ∧ s.sl 4 = int k ∧ (k ≤ l.length ∧ (l.take k).all isPow = true ∧ s.rw 90 = ⟨0, .dead⟩ ∧ ∀ i, s.rw (sid 90 i) = ⟨0, .dead⟩)) (fun k => l.length - k) (0) (by refine ⟨?_, ?_, ?_, ?_, ⟨by omega, rfl, by simp (maxSteps := 5000000) -dsimp only [gr, Nat.reduceEqDiff, Nat.reduceLT, Nat.reduceAdd, Nat.reduceMod, Nat.reduceBEq, sid_mod, sid_ne1, sid_ne2, sid_inj], fun i => by simp (maxSteps := 5000000) -dsimp only [gr, Nat.reduceEqDiff, Nat.reduceLT, Nat.reduceAdd, Nat.reduceMod, Nat.reduceBEq, sid_mod, sid_ne1, sid_ne2, sid_inj]⟩⟩ <;> (first | (simp (maxSteps := 5000000) -dsimp only [gr, Nat.reduceEqDiff, Nat.reduceLT, Nat.reduceAdd, Nat.reduceMod, Nat.reduceBEq, sid_mod, sid_ne1, sid_ne2, sid_inj]; first | done | rfl | (simp; done)) | assumption | rfl)) ?_
  intro k sa ⟨h0a, h2a, r2a, h4a, hIa⟩
  obtain ⟨hk, hal, hd0, hdi⟩ := hIa
  simp (maxSteps := 5000000) -dsimp only [↓gp, gq, reduceCtorEq, Nat.reduceEqDiff, Nat.reduceLT, Nat.reduceLeDiff, Nat.reduceAdd, Nat.reduceMul, Nat.reduceSub, Nat.reduceBEq, Int.reduceToNat, Int.reduceLE, Int.reduceLT, Int.reduceNeg, Nat.reduceMod, sid_ne1, sid_ne2, sid_inj, sid_mod, gT, TK.isInt, TK.agg, Array.toList, h0a, h2a, r2a, h4a]
  refine ⟨fun h => ⟨h, h, askK_of (c_spec_l35List _) ?_⟩, fun h => ?_⟩
  · have e : (l.take (k + 1)).all isPow = isPow (l.getD k []) := by rw [take_snoc [] h, List.all_append, hal]; simp
    simp (maxSteps := 5000000) -dsimp only [↓gp, gq, reduceCtorEq, Nat.reduceEqDiff, Nat.reduceLT, Nat.reduceLeDiff, Nat.reduceAdd, Nat.reduceMul, Nat.reduceSub, Nat.reduceBEq, Int.reduceToNat, Int.reduceLE, Int.reduceLT, Int.reduceNeg, Nat.reduceMod, sid_ne1, sid_ne2, sid_inj, sid_mod, gT, TK.isInt, TK.agg, Array.toList, h0a, h2a, r2a, h4a]
    refine ⟨fun hp => ?_, fun hp => ?_⟩
    · have hno : ¬ (allP l = true) := fun ha => by
        have := List.all_eq_true.1 ha _ (getD_mem [] h)
        rw [this] at hp; cases hp
      have e1 : mkV l = [] := if_neg fun hh => hno hh.1
      have e2 : mkB l = false := by unfold mkB; cases ha : allP l with | true => exact absurd ha hno | false => rfl
      rw [e1, e2]; exact ⟨rfl, rfl⟩
    · exact again_of (k + 1) (by refine ⟨?_, ?_, ?_, ?_, ⟨by omega, by rw [e]; simpa using hp, by simp (maxSteps := 5000000) -dsimp only [gr, Nat.reduceEqDiff, Nat.reduceLT, Nat.reduceAdd, Nat.reduceMod, Nat.reduceBEq, sid_mod, sid_ne1, sid_ne2, sid_inj, hd0], fun i => by simp (maxSteps := 5000000) -dsimp only [gr, Nat.reduceEqDiff, Nat.reduceLT, Nat.reduceAdd, Nat.reduceMod, Nat.reduceBEq, sid_mod, sid_ne1, sid_ne2, sid_inj, hdi]⟩⟩ <;> (first | (simp (maxSteps := 5000000) -dsimp only [gr, Nat.reduceEqDiff, Nat.reduceLT, Nat.reduceAdd, Nat.reduceMod, Nat.reduceBEq, sid_mod, sid_ne1, sid_ne2, sid_inj, h0a, h2a, r2a, h4a, wrap_nat h (show l.length ≤ 9223372036854775807 by omega)]; first | done | rfl | (simp; done)) | assumption | rfl)) (by first | omega | (simp only; omega) | (dsimp only; omega) | (show _ < _; simp; omega))
  · have hkl : k = l.length := by omega
    subst hkl
    rw [List.take_length] at hal
    have hx3 : ∀ k, k < l.length → (l.getD k []).length = 3 := fun k hk => isPow_3 (List.all_eq_true.1 hal _ (getD_mem [] hk))
    refine loop_nilbox (k := 90) (e := 31) (e2 := 3) (j := 5) (v := (sa.rw 5).ver + 1) (t := 27) (o := 0) (c := [.v (.slice none 0 0)]) (c' := [.own 90 1]) (by simp (maxSteps := 5000000) -dsimp only [gr, Nat.reduceEqDiff, Nat.reduceLT, Nat.reduceAdd, Nat.reduceMod, Nat.reduceBEq, sid_mod, sid_ne1, sid_ne2, sid_inj]) rfl rfl (by decide) (by simp (maxSteps := 5000000) -dsimp only [gr, Nat.reduceEqDiff, Nat.reduceLT, Nat.reduceAdd, Nat.reduceMod, Nat.reduceBEq, sid_mod, sid_ne1, sid_ne2, sid_inj, hd0]) (fun i => by simp (maxSteps := 5000000) -dsimp only [gr, Nat.reduceEqDiff, Nat.reduceLT, Nat.reduceAdd, Nat.reduceMod, Nat.reduceBEq, sid_mod, sid_ne1, sid_ne2, sid_inj, hdi]) (fun (zb : Nat × Nat) s => match zb with | (i, v) => s.sl 0 = int2 l ∧ s.sl 2 = .ref 2 1 0 ∧ s.rw 2 = ⟨1, .box 27 [.v (.slice none 0 0)]⟩ ∧ s.sl 5 = .ref 5 ((sa.rw 5).ver + 1) 0 ∧ s.rw 5 = ⟨(sa.rw 5).ver + 1, .box 27 [.own 90 v]⟩ ∧ s.sl 6 = int (26 - (i : Int)) ∧ (i ≤ 27 ∧ TabG s.rw 90 v 31 3 (mkO l i).length (mkO l i))) (fun (i, v) => 27 - i) ((0, 1)) (fun sX htX hslX hoX => (by refine ⟨?_, ?_, ?_, ?_, ?_, ?_, ⟨by omega, htX.1⟩⟩ <;> (first | (simp (maxSteps := 5000000) -dsimp only [gr, Nat.reduceEqDiff, Nat.reduceLT, Nat.reduceAdd, Nat.reduceMod, Nat.reduceBEq, sid_mod, sid_ne1, sid_ne2, sid_inj, hslX, hoX, h0a, h2a, r2a, h4a, htX.2, Int.natCast_zero, Int.sub_zero]; first | done | rfl | (simp; done)) | assumption | rfl))) ?_
    intro (i, v) sb ⟨h0b, h2b, r2b, h5b, r5b, h6b, hIb⟩
    obtain ⟨hi, hta⟩ := hIb
    by_cases h27 : i < 27
    · have hx : (26 : Int) - (i : Int) = ((26 - i : Nat) : Int) := by omega
      have hq1 : (((26 - i : Nat) : Int)).tdiv 9 = (((26 - i) / 9 : Nat) : Int) := by rw [Int.tdiv_eq_ediv_of_nonneg (by omega)]; omega
      have hw9 : IntKind.i64.wrap (((26 - i) / 9 : Nat) : Int) = (((26 - i) / 9 : Nat) : Int) := wrap_id (by omega) (by omega)
      have hw3 : IntKind.i64.wrap (((26 - i) / 3 : Nat) : Int) = (((26 - i) / 3 : Nat) : Int) := wrap_id (by omega) (by omega)
      have hq2 : (((26 - i : Nat) : Int)).tdiv 3 = (((26 - i) / 3 : Nat) : Int) := by rw [Int.tdiv_eq_ediv_of_nonneg (by omega)]; omega
      have hq3 : (((26 - i) / 3 : Nat) : Int).tmod 3 = (((26 - i) / 3 % 3 : Nat) : Int) := by rw [Int.tmod_eq_emod_of_nonneg (by omega)]; omega
      have hq4 : (((26 - i : Nat) : Int)).tmod 3 = (((26 - i) % 3 : Nat) : Int) := by rw [Int.tmod_eq_emod_of_nonneg (by omega)]; omega
      simp (maxSteps := 5000000) -dsimp only [↓gp, gq, reduceCtorEq, Nat.reduceEqDiff, Nat.reduceLT, Nat.reduceLeDiff, Nat.reduceAdd, Nat.reduceMul, Nat.reduceSub, Nat.reduceBEq, Int.reduceToNat, Int.reduceLE, Int.reduceLT, Int.reduceNeg, Nat.reduceMod, sid_ne1, sid_ne2, sid_inj, sid_mod, gT, TK.isInt, TK.agg, Array.toList, h0b, h2b, r2b, h5b, r5b, h6b, hx, hq1, hq2, hq3, hq4, hw9, hw3]
      refine ⟨by decide, by decide, by decide, by decide, ?_⟩
      have hee : iL [(((26 - i) / 9 : Nat) : Int), (((26 - i) / 3 % 3 : Nat) : Int), (((26 - i) % 3 : Nat) : Int)] = iL (expo (26 - i)) := rfl
      have hel : (expo (26 - i)).length = 3 := rfl
      generalize hxe : expo (26 - i) = x at *
      refine loop_of (fun (k : Nat) s => s.sl 0 = int2 l ∧ s.sl 2 = .ref 2 1 0 ∧ s.rw 2 = ⟨1, .box 27 [.v (.slice none 0 0)]⟩ ∧ s.sl 5 = .ref 5 ((sa.rw 5).ver + 1) 0 ∧ s.rw 5 = ⟨(sa.rw 5).ver + 1, .box 27 [.own 90 v]⟩ ∧ s.sl 6 = int (26 - i : Nat) ∧ s.sl 7 = .own 37 ((sb.rw 37).ver + 1) ∧ s.rw 37 = ⟨(sb.rw 37).ver + 1, .sli 3 1 false (iL x)⟩ ∧ s.sl 8 = bool (inP (l.take k) x) ∧ s.sl 9 = bool (leP (l.take k) x) ∧ s.sl 10 = int k ∧ (k ≤ l.length ∧ TabG s.rw 90 v 31 3 (mkO l i).length (mkO l i))) (fun k => l.length - k) (0) (by refine ⟨?_, ?_, ?_, ?_, ?_, ?_, ?_, ?_, ?_, ?_, ?_, ⟨by omega, hta.same (by simp (maxSteps := 5000000) -dsimp only [gr, Nat.reduceEqDiff, Nat.reduceLT, Nat.reduceAdd, Nat.reduceMod, Nat.reduceBEq, sid_mod, sid_ne1, sid_ne2, sid_inj]) (fun x => by simp (maxSteps := 5000000) -dsimp only [gr, Nat.reduceEqDiff, Nat.reduceLT, Nat.reduceAdd, Nat.reduceMod, Nat.reduceBEq, sid_mod, sid_ne1, sid_ne2, sid_inj])⟩⟩ <;> (first | (simp (maxSteps := 5000000) -dsimp only [gr, Nat.reduceEqDiff, Nat.reduceLT, Nat.reduceAdd, Nat.reduceMod, Nat.reduceBEq, sid_mod, sid_ne1, sid_ne2, sid_inj, h0b, h2b, r2b, h5b, r5b, h6b, hx, hee, inP, leP, List.take_zero, List.any_nil, List.all_nil]; first | done | rfl | (simp; done)) | assumption | rfl)) ?_
      intro k sc ⟨h0c, h2c, r2c, h5c, r5c, h6c, h7c, r37c, h8c, h9c, h10c, hIc⟩
      obtain ⟨hk2, htc⟩ := hIc
      simp (maxSteps := 5000000) -dsimp only [↓gp, gq, reduceCtorEq, Nat.reduceEqDiff, Nat.reduceLT, Nat.reduceLeDiff, Nat.reduceAdd, Nat.reduceMul, Nat.reduceSub, Nat.reduceBEq, Int.reduceToNat, Int.reduceLE, Int.reduceLT, Int.reduceNeg, Nat.reduceMod, sid_ne1, sid_ne2, sid_inj, sid_mod, gT, TK.isInt, TK.agg, Array.toList, h0c, h2c, r2c, h5c, r5c, h6c, h7c, r37c, h8c, h9c, h10c]
      refine ⟨fun h1 => ⟨h1, h1, askK_of (c_spec_l2Same _ _) ?_⟩, fun h1 => ?_⟩
      · have ei : inP (l.take (k + 1)) x = (inP (l.take k) x || decide (l.getD k [] = x)) := by rw [take_snoc [] h1]; simp [inP]
        have el : leP (l.take (k + 1)) x = (leP (l.take k) x && (decide (l.getD k [] = x) || !div3 (l.getD k []) x)) := by rw [take_snoc [] h1]; simp [leP]
        have hd := fun (h1 : k < l.length) => c_spec_l35Divides (l.getD k []) x (by rw [hx3 k h1]; decide) (by rw [hel]; decide)
        cases hf : inP (l.take k) x <;> cases hg : leP (l.take k) x <;> cases hs : decide (l.getD k [] = x)
        all_goals
          rw [hf, hs] at ei
          rw [hg, hs] at el
          simp (maxSteps := 5000000) -dsimp only [↓gp, gq, reduceCtorEq, Nat.reduceEqDiff, Nat.reduceLT, Nat.reduceLeDiff, Nat.reduceAdd, Nat.reduceMul, Nat.reduceSub, Nat.reduceBEq, Int.reduceToNat, Int.reduceLE, Int.reduceLT, Int.reduceNeg, Nat.reduceMod, sid_ne1, sid_ne2, sid_inj, sid_mod, gT, TK.isInt, TK.agg, Array.toList, h0c, h2c, r2c, h5c, r5c, h6c, h7c, r37c, h8c, h9c, h10c, hf, hg, hs]
          first
            | exact again_of (k + 1) (by refine ⟨?_, ?_, ?_, ?_, ?_, ?_, ?_, ?_, ?_, ?_, ?_, ⟨by omega, htc.same (by simp (maxSteps := 5000000) -dsimp only [gr, Nat.reduceEqDiff, Nat.reduceLT, Nat.reduceAdd, Nat.reduceMod, Nat.reduceBEq, sid_mod, sid_ne1, sid_ne2, sid_inj]) (fun x => by simp (maxSteps := 5000000) -dsimp only [gr, Nat.reduceEqDiff, Nat.reduceLT, Nat.reduceAdd, Nat.reduceMod, Nat.reduceBEq, sid_mod, sid_ne1, sid_ne2, sid_inj])⟩⟩ <;> (first | (simp (maxSteps := 5000000) -dsimp only [gr, Nat.reduceEqDiff, Nat.reduceLT, Nat.reduceAdd, Nat.reduceMod, Nat.reduceBEq, sid_mod, sid_ne1, sid_ne2, sid_inj, h0c, h2c, r2c, h5c, r5c, h6c, h7c, r37c, h8c, h9c, h10c, hf, hg, ei, el, wrap_nat h1 (show l.length ≤ 9223372036854775807 by omega)]; first | done | rfl | (simp; done)) | assumption | rfl)) (by first | omega | (simp only; omega) | (dsimp only; omega) | (show _ < _; simp; omega))
            | (refine ⟨h1, h1, askK_of (hd h1) ?_⟩
               simp (maxSteps := 5000000) -dsimp only [↓gp, gq, reduceCtorEq, Nat.reduceEqDiff, Nat.reduceLT, Nat.reduceLeDiff, Nat.reduceAdd, Nat.reduceMul, Nat.reduceSub, Nat.reduceBEq, Int.reduceToNat, Int.reduceLE, Int.reduceLT, Int.reduceNeg, Nat.reduceMod, sid_ne1, sid_ne2, sid_inj, sid_mod, gT, TK.isInt, TK.agg, Array.toList, h0c, h2c, r2c, h5c, r5c, h6c, h7c, r37c, h8c, h9c, h10c, hf, hg, hs]
               exact again_of (k + 1) (by refine ⟨?_, ?_, ?_, ?_, ?_, ?_, ?_, ?_, ?_, ?_, ?_, ⟨by omega, htc.same (by simp (maxSteps := 5000000) -dsimp only [gr, Nat.reduceEqDiff, Nat.reduceLT, Nat.reduceAdd, Nat.reduceMod, Nat.reduceBEq, sid_mod, sid_ne1, sid_ne2, sid_inj]) (fun x => by simp (maxSteps := 5000000) -dsimp only [gr, Nat.reduceEqDiff, Nat.reduceLT, Nat.reduceAdd, Nat.reduceMod, Nat.reduceBEq, sid_mod, sid_ne1, sid_ne2, sid_inj])⟩⟩ <;> (first | (simp (maxSteps := 5000000) -dsimp only [gr, Nat.reduceEqDiff, Nat.reduceLT, Nat.reduceAdd, Nat.reduceMod, Nat.reduceBEq, sid_mod, sid_ne1, sid_ne2, sid_inj, h0c, h2c, r2c, h5c, r5c, h6c, h7c, r37c, h8c, h9c, h10c, hf, hg, ei, el, wrap_nat h1 (show l.length ≤ 9223372036854775807 by omega)]; first | done | rfl | (simp; done)) | assumption | rfl)) (by first | omega | (simp only; omega) | (dsimp only; omega) | (show _ < _; simp; omega)))
      · have hk3 : k = l.length := by omega
        subst hk3
        rw [List.take_length] at *
        have hw26 : IntKind.i64.wrap (((26 - i : Nat) : Int) - 1) = 26 - ((i + 1 : Nat) : Int) := by rw [wrap_id (by omega) (by omega)]; omega
        have hol := mkO_len l i
        have hnil : decide (l.length < l.length) = false := decide_eq_false (Nat.lt_irrefl _)
        refine ⟨fun hin => ⟨fun hle => ?_, fun hle => ?_⟩, fun hin => ?_⟩
        · have e : mkO l (i + 1) = mkO l i ++ [x] := by
            show (if inP l (expo (26 - i)) = true ∧ leP l (expo (26 - i)) = true then mkO l i ++ [expo (26 - i)] else mkO l i) = _
            rw [hxe, if_pos ⟨hin, hle⟩]
          refine orB_r ?_
          simp (maxSteps := 5000000) -dsimp only [↓gp, gq, reduceCtorEq, Nat.reduceEqDiff, Nat.reduceLT, Nat.reduceLeDiff, Nat.reduceAdd, Nat.reduceMul, Nat.reduceSub, Nat.reduceBEq, Int.reduceToNat, Int.reduceLE, Int.reduceLT, Int.reduceNeg, Nat.reduceMod, sid_ne1, sid_ne2, sid_inj, sid_mod, gT, TK.isInt, TK.agg, Array.toList, h0c, h2c, r2c, h5c, r5c, h6c, h7c, r37c, h8c, h9c, h10c, htc.top, cellsT_length, List.length_range]
          refine ⟨by omega, again_grow0 (k := 90) (v := v + 1) (e := 31) (e2 := 3) (n := (mkO l i).length) (d := 37) (vd := (sb.rw 37).ver + 1) (M := mkO l i) (r := x) (by simp (maxSteps := 5000000) -dsimp only [gr, Nat.reduceEqDiff, Nat.reduceLT, Nat.reduceAdd, Nat.reduceMod, Nat.reduceBEq, sid_mod, sid_ne1, sid_ne2, sid_inj, htc.top]) rfl (fun j hj => by simp (maxSteps := 5000000) -dsimp only [gr, Nat.reduceEqDiff, Nat.reduceLT, Nat.reduceAdd, Nat.reduceMod, Nat.reduceBEq, sid_mod, sid_ne1, sid_ne2, sid_inj, htc.row j hj]) (fun j hj => by simp (maxSteps := 5000000) -dsimp only [gr, Nat.reduceEqDiff, Nat.reduceLT, Nat.reduceAdd, Nat.reduceMod, Nat.reduceBEq, sid_mod, sid_ne1, sid_ne2, sid_inj, htc.rest j hj]) (by simp (maxSteps := 5000000) -dsimp only [gr, Nat.reduceEqDiff, Nat.reduceLT, Nat.reduceAdd, Nat.reduceMod, Nat.reduceBEq, sid_mod, sid_ne1, sid_ne2, sid_inj, h0c, h2c, r2c, h5c, r5c, h6c, h7c, r37c, h8c, h9c, h10c]) (by decide) (by decide) ((i + 1, v + 1)) (fun sX htX hslX hoX => (by refine ⟨?_, ?_, ?_, ?_, ?_, ?_, ⟨by omega, by dsimp only; rw [e, List.length_append]; exact htX⟩⟩ <;> (first | (simp (maxSteps := 5000000) -dsimp only [gr, Nat.reduceEqDiff, Nat.reduceLT, Nat.reduceAdd, Nat.reduceMod, Nat.reduceBEq, sid_mod, sid_ne1, sid_ne2, sid_inj, hslX, hoX, h0b, h2b, r2b, h5b, r5b, h6b, h0c, h2c, r2c, h5c, r5c, h6c, h7c, r37c, h8c, h9c, h10c, hw26]; first | done | rfl | (simp; done)) | assumption | rfl))) (by first | omega | (simp only; omega) | (dsimp only; omega) | (show _ < _; simp; omega))⟩
        · have e : mkO l (i + 1) = mkO l i := by
            show (if inP l (expo (26 - i)) = true ∧ leP l (expo (26 - i)) = true then mkO l i ++ [expo (26 - i)] else mkO l i) = _
            rw [hxe, if_neg (by intro h; rw [h.2] at hle; cases hle)]
          exact again_of ((i + 1, v)) (by refine ⟨?_, ?_, ?_, ?_, ?_, ?_, ⟨by omega, by dsimp only; rw [e]; exact htc.same (by simp (maxSteps := 5000000) -dsimp only [gr, Nat.reduceEqDiff, Nat.reduceLT, Nat.reduceAdd, Nat.reduceMod, Nat.reduceBEq, sid_mod, sid_ne1, sid_ne2, sid_inj]) (fun x => by simp (maxSteps := 5000000) -dsimp only [gr, Nat.reduceEqDiff, Nat.reduceLT, Nat.reduceAdd, Nat.reduceMod, Nat.reduceBEq, sid_mod, sid_ne1, sid_ne2, sid_inj])⟩⟩ <;> (first | (simp (maxSteps := 5000000) -dsimp only [gr, Nat.reduceEqDiff, Nat.reduceLT, Nat.reduceAdd, Nat.reduceMod, Nat.reduceBEq, sid_mod, sid_ne1, sid_ne2, sid_inj, h0b, h2b, r2b, h5b, r5b, h6b, h0c, h2c, r2c, h5c, r5c, h6c, h7c, r37c, h8c, h9c, h10c, hw26]; first | done | rfl | (simp; done)) | assumption | rfl)) (by first | omega | (simp only; omega) | (dsimp only; omega) | (show _ < _; simp; omega))
        · have e : mkO l (i + 1) = mkO l i := by
            show (if inP l (expo (26 - i)) = true ∧ leP l (expo (26 - i)) = true then mkO l i ++ [expo (26 - i)] else mkO l i) = _
            rw [hxe, if_neg (by intro h; rw [h.1] at hin; cases hin)]
          exact again_of ((i + 1, v)) (by refine ⟨?_, ?_, ?_, ?_, ?_, ?_, ⟨by omega, by dsimp only; rw [e]; exact htc.same (by simp (maxSteps := 5000000) -dsimp only [gr, Nat.reduceEqDiff, Nat.reduceLT, Nat.reduceAdd, Nat.reduceMod, Nat.reduceBEq, sid_mod, sid_ne1, sid_ne2, sid_inj]) (fun x => by simp (maxSteps := 5000000) -dsimp only [gr, Nat.reduceEqDiff, Nat.reduceLT, Nat.reduceAdd, Nat.reduceMod, Nat.reduceBEq, sid_mod, sid_ne1, sid_ne2, sid_inj])⟩⟩ <;> (first | (simp (maxSteps := 5000000) -dsimp only [gr, Nat.reduceEqDiff, Nat.reduceLT, Nat.reduceAdd, Nat.reduceMod, Nat.reduceBEq, sid_mod, sid_ne1, sid_ne2, sid_inj, h0b, h2b, r2b, h5b, r5b, h6b, h0c, h2c, r2c, h5c, r5c, h6c, h7c, r37c, h8c, h9c, h10c, hw26]; first | done | rfl | (simp; done)) | assumption | rfl)) (by first | omega | (simp only; omega) | (dsimp only; omega) | (show _ < _; simp; omega))
    · have hi2 : i = 27 := by omega
      subst hi2
      have hno : decide ((0 : Int) ≤ 26 - ((27 : Nat) : Int)) = false := by decide
      have hn2 : ((0 : Int) ≤ 26 - ((27 : Nat) : Int)) = False := eq_false (by decide)
      simp (maxSteps := 5000000) -dsimp only [↓gp, gq, reduceCtorEq, Nat.reduceEqDiff, Nat.reduceLT, Nat.reduceLeDiff, Nat.reduceAdd, Nat.reduceMul, Nat.reduceSub, Nat.reduceBEq, Int.reduceToNat, Int.reduceLE, Int.reduceLT, Int.reduceNeg, Nat.reduceMod, sid_ne1, sid_ne2, sid_inj, sid_mod, gT, TK.isInt, TK.agg, Array.toList, h0b, h2b, r2b, h5b, r5b, h6b, hno, hn2, hta.top]
      rw [lend_tabI hta.done _ (fun j => by simp (maxSteps := 5000000) -dsimp only [gr, Nat.reduceEqDiff, Nat.reduceLT, Nat.reduceAdd, Nat.reduceMod, Nat.reduceBEq, sid_mod, sid_ne1, sid_ne2, sid_inj])]
      refine askK_of (c_spec_ArePowers _) ?_
      simp (maxSteps := 5000000) -dsimp only [↓gp, gq, reduceCtorEq, Nat.reduceEqDiff, Nat.reduceLT, Nat.reduceLeDiff, Nat.reduceAdd, Nat.reduceMul, Nat.reduceSub, Nat.reduceBEq, Int.reduceToNat, Int.reduceLE, Int.reduceLT, Int.reduceNeg, Nat.reduceMod, sid_ne1, sid_ne2, sid_inj, sid_mod, gT, TK.isInt, TK.agg, Array.toList, h0b, h2b, r2b, h5b, r5b, h6b, hta.top]
      refine ⟨fun hp => ?_, fun hp => ?_⟩
      · have hp : p19 (mkO l 27) = false := by simpa using hp
        have e1 : mkV l = [] := if_neg fun hh => by rw [hh.2] at hp; cases hp
        have e2 : mkB l = false := by unfold mkB; rw [hp, Bool.and_false]
        rw [e1, e2]; exact ⟨rfl, rfl⟩
      · have hp : p19 (mkO l 27) = true := by simpa using hp
        have hal2 : allP l = true := hal
        have e1 : mkV l = mkO l 27 := if_pos ⟨hal2, hp⟩
        have e2 : mkB l = true := by unfold mkB; rw [hp, hal2]; rfl
        rw [e1, e2]
        refine out1_tabI (hta.done.same (rw' := _) (by simp (maxSteps := 5000000) -dsimp only [gr, Nat.reduceEqDiff, Nat.reduceLT, Nat.reduceAdd, Nat.reduceMod, Nat.reduceBEq, sid_mod, sid_ne1, sid_ne2, sid_inj]) (fun j => by simp (maxSteps := 5000000) -dsimp only [gr, Nat.reduceEqDiff, Nat.reduceLT, Nat.reduceAdd, Nat.reduceMod, Nat.reduceBEq, sid_mod, sid_ne1, sid_ne2, sid_inj])) (by decide) (fun j hj => by have := List.mem_range.1 hj; have := mkO_len l 27; omega) ?_
        simp only [kk, outL]
        exact ⟨rfl, by simpa using ids_nd 90 (mkO l 27).length⟩
end Go.Proofs.Ytnfpeinbdfmlnaa

namespace Go.Proofs.Ytnfpeinbdfmlnaa
open Go.Abs
set_option linter.unusedSimpArgs false
set_option linter.unusedVariables false

def idxP (r : List Int) : Nat := (r.getD 0 0 * 9 + r.getD 1 0 * 3 + r.getD 2 0).toNat
theorem expo_idx : ∀ n, n < 27 → idxP (expo n) = n := by decide
theorem idx_expo {r : List Int} (h : isPow r = true) : idxP r < 27 ∧ expo (idxP r) = r := by
  have h3 := isPow_3 h
  match r, h3 with
  | [a, b, c], _ =>
    have h0 := isPow_bd h (j := 0) (by omega)
    have h1 := isPow_bd h (j := 1) (by omega)
    have h2 := isPow_bd h (j := 2) (by omega)
    simp at h0 h1 h2
    have e : idxP [a, b, c] = (a * 9 + b * 3 + c).toNat := rfl
    rw [e]
    refine ⟨by omega, ?_⟩
    unfold expo
    have e1 : (((a * 9 + b * 3 + c).toNat / 9 : Nat) : Int) = a := by omega
    have e2 : (((a * 9 + b * 3 + c).toNat / 3 % 3 : Nat) : Int) = b := by omega
    have e3 : (((a * 9 + b * 3 + c).toNat % 3 : Nat) : Int) = c := by omega
    rw [e1, e2, e3]
def givL (l : List (List Int)) : List Bool := (List.range 27).map fun n => inP l (expo n)
theorem givL_len (l : List (List Int)) : (givL l).length = 27 := by simp [givL]
theorem givL_getD (l : List (List Int)) {n : Nat} (h : n < 27) : (givL l).getD n false = inP l (expo n) := by simp [givL, List.getD, h]
theorem givL_set (l : List (List Int)) {r : List Int} (h : isPow r = true) : (givL l).set (idxP r) true = givL (l ++ [r]) := by
  obtain ⟨h1, h2⟩ := idx_expo h
  refine List.ext_getElem (by simp [givL]) fun n a b => ?_
  have hn : n < 27 := by simpa [givL] using b
  rw [List.getElem_set]
  simp only [givL, List.getElem_map, List.getElem_range]
  by_cases e : idxP r = n
  · subst e
    rw [if_pos rfl, h2]
    simp [inP]
  · rw [if_neg e]
    have : r ≠ expo n := fun he => e (by rw [he, expo_idx n hn])
    simp [inP, this]
def allO (l : List (List Int)) : Nat → List (List Int)
  | 0 => []
  | i + 1 => if inP l (expo (26 - i)) = true then allO l i ++ [expo (26 - i)] else allO l i
theorem allO_len (l : List (List Int)) : ∀ i, (allO l i).length ≤ i := by
  intro i
  induction i with
  | zero => exact Nat.le_refl _
  | succ i ih => unfold allO; split; rw [List.length_append]; simp; exact ih; omega
def numL (l : List (List Int)) (i : Nat) : List Nat := ((List.range i).map fun j => 26 - j).filter fun n => inP l (expo n)
theorem numL_succ (l : List (List Int)) (i : Nat) : numL l (i + 1) = numL l i ++ (if inP l (expo (26 - i)) = true then [26 - i] else []) := by
  unfold numL
  rw [List.range_succ, List.map_append, List.filter_append]
  congr 1
  simp only [List.map_cons, List.map_nil, List.filter_cons, List.filter_nil]
theorem allO_eq (l : List (List Int)) : ∀ i, allO l i = (numL l i).map expo := by
  intro i
  induction i with
  | zero => rfl
  | succ i ih =>
    rw [numL_succ, List.map_append, ← ih]
    rw [show allO l (i + 1) = if inP l (expo (26 - i)) = true then allO l i ++ [expo (26 - i)] else allO l i from rfl]
    split <;> simp
theorem mkO_eq (l : List (List Int)) : ∀ i, mkO l i = ((numL l i).filter fun n => leP l (expo n)).map expo := by
  intro i
  induction i with
  | zero => rfl
  | succ i ih =>
    rw [numL_succ, List.filter_append, List.map_append, ← ih]
    rw [show mkO l (i + 1) = if inP l (expo (26 - i)) = true ∧ leP l (expo (26 - i)) = true then mkO l i ++ [expo (26 - i)] else mkO l i from rfl]
    by_cases h1 : inP l (expo (26 - i)) = true
    · by_cases h2 : leP l (expo (26 - i)) = true
      · rw [if_pos ⟨h1, h2⟩, if_pos h1]; simp [h2]
      · rw [if_neg (fun h => h2 h.2), if_pos h1]; simp [h2]
    · rw [if_neg (fun h => h1 h.1), if_neg h1]; simp
theorem numL_lt (l : List (List Int)) (i : Nat) : ∀ n ∈ numL l i, n < 27 ∧ inP l (expo n) = true := by
  intro n hn
  obtain ⟨h1, h2⟩ := List.mem_filter.1 hn
  obtain ⟨j, _, rfl⟩ := List.mem_map.1 h1
  exact ⟨by omega, h2⟩
theorem numL_mem (l : List (List Int)) {n : Nat} (h : n < 27) (hi : inP l (expo n) = true) : n ∈ numL l 27 := by
  refine List.mem_filter.2 ⟨List.mem_map.2 ⟨26 - n, List.mem_range.2 (by omega), by omega⟩, hi⟩
theorem numL_nodup (l : List (List Int)) : (numL l 27).Nodup := by
  refine List.Pairwise.filter _ ?_
  decide
/-- No other element divides it. -/
def leI (A : List (List Int)) (k j : Nat) : Bool := (List.range j).all fun t => decide (t = k) || !divL (A.getD t []) (A.getD k [])
theorem leI_succ (A : List (List Int)) (k j : Nat) : leI A k (j + 1) = (leI A k j && (decide (j = k) || !divL (A.getD j []) (A.getD k []))) := by
  unfold leI; rw [List.range_succ, List.all_append]; simp
def qO (A : List (List Int)) (k : Nat) : List Nat := (List.range k).filter fun t => leI A t A.length
theorem qO_yes {A : List (List Int)} {k : Nat} (h : leI A k A.length = true) : qO A (k + 1) = qO A k ++ [k] := by unfold qO; rw [List.range_succ, List.filter_append]; simp [h]
theorem qO_no {A : List (List Int)} {k : Nat} (h : leI A k A.length = false) : qO A (k + 1) = qO A k := by unfold qO; rw [List.range_succ, List.filter_append]; simp [h]
theorem qO_lt (A : List (List Int)) (k : Nat) : ∀ t ∈ qO A k, t < k := fun t ht => List.mem_range.1 (List.mem_filter.1 ht).1
theorem qO_len (A : List (List Int)) (k : Nat) : (qO A k).length ≤ k := by
  have := List.length_filter_le (fun t => leI A t A.length) (List.range k)
  rwa [List.length_range] at this
theorem qO_nodup (A : List (List Int)) (k : Nat) : (qO A k).Nodup := List.Pairwise.filter _ List.nodup_range
theorem filt_get {α : Type} (d : α) (L : List α) (p : α → Bool) (f : Nat → Bool) (h : ∀ t, t < L.length → f t = p (L.getD t d)) : ((List.range L.length).filter f).map (fun t => L.getD t d) = L.filter p := by
  have e : (List.range L.length).map (fun t => L.getD t d) = L := by
    refine List.ext_getElem (by simp) fun i a b => ?_
    simp [List.getD, b]
  have e2 : (List.range L.length).filter f = (List.range L.length).filter (p ∘ fun t => L.getD t d) := List.filter_congr fun t ht => h t (List.mem_range.1 ht)
  rw [e2, ← List.filter_map, e]
theorem qO_mkO {l : List (List Int)} (hal : allP l = true) : (qO (allO l 27) (allO l 27).length).map (fun t => (allO l 27).getD t []) = mkO l 27 := by
  have hA := allO_eq l 27
  have hpow : ∀ r ∈ l, isPow r = true := fun r hr => List.all_eq_true.1 hal r hr
  have hget : ∀ t, t < (numL l 27).length → (allO l 27).getD t [] = expo ((numL l 27).getD t 0) := fun t ht => by
    rw [hA]; simp [List.getD, ht]
  have hlen : (allO l 27).length = (numL l 27).length := by rw [hA]; simp
  have hN : ∀ t, t < (numL l 27).length → (numL l 27).getD t 0 ∈ numL l 27 := fun t ht => getD_mem 0 ht
  have hin : ∀ x, inP l x = true ↔ x ∈ l := fun x => by simp [inP]
  unfold qO
  rw [filt_get [] (allO l 27) (leP l) _ fun t ht => ?_]
  · rw [mkO_eq, hA, List.filter_map]
    rfl
  · rw [hlen] at ht
    have hx := hget t ht
    obtain ⟨hn, hni⟩ := numL_lt l 27 _ (hN t ht)
    have hxi : (allO l 27).getD t [] ∈ l := by rw [hx]; exact (hin _).1 hni
    have hx3 := isPow_3 (hpow _ hxi)
    rw [Bool.eq_iff_iff]
    unfold leI leP
    rw [List.all_eq_true, List.all_eq_true]
    constructor
    · intro h r hr
      obtain ⟨h1, h2⟩ := idx_expo (hpow r hr)
      have hm := numL_mem l h1 (by rw [h2]; exact (hin r).2 hr)
      obtain ⟨j, hj, hje⟩ := List.getElem_of_mem hm
      have hg : (allO l 27).getD j [] = r := by rw [hget j hj]; simp [List.getD, hj, hje, h2]
      have := h j (List.mem_range.2 (by rw [hlen]; exact hj))
      rw [hg, div_3 (isPow_3 (hpow r hr))] at this
      simp only [Bool.or_eq_true, decide_eq_true_eq] at this ⊢
      rcases this with h | h
      · left; rw [← hg, h]
      · exact .inr h
    · intro h j hj
      have hj : j < (numL l 27).length := by rw [← hlen]; exact List.mem_range.1 hj
      have hgi : (allO l 27).getD j [] ∈ l := by rw [hget j hj]; exact (hin _).1 (numL_lt l 27 _ (hN j hj)).2
      have := h _ hgi
      rw [div_3 (isPow_3 (hpow _ hgi))]
      simp only [Bool.or_eq_true, decide_eq_true_eq] at this ⊢
      rcases this with h | h
      · left
        rw [hget j hj, hget t ht] at h
        have h5 := congrArg idxP h
        rw [expo_idx _ (numL_lt l 27 _ (hN j hj)).1, expo_idx _ hn] at h5
        have e1 : (numL l 27).getD j 0 = (numL l 27)[j] := by simp [List.getD, hj]
        have e2 : (numL l 27).getD t 0 = (numL l 27)[t] := by simp [List.getD, ht]
        rw [e1, e2] at h5
        exact (List.getElem_inj (h₀ := hj) (h₁ := ht) (numL_nodup l)).1 h5
      · exact .inr h
end Go.Proofs.Ytnfpeinbdfmlnaa

namespace Go.Proofs.Ytnfpeinbdfmlnaa
open Go.Abs
set_option linter.unusedSimpArgs false
set_option linter.unusedVariables false

theorem lend_q {rw rw' : Nat → Row} {k v e e2 n : Nat} {M : List (List Int)} (h : TabG rw k v e e2 n M) {q : List Nat} (hq : ∀ t ∈ q, t < n) (hr : ∀ j, rw' (sid k j) = rw (sid k j)) : (cellsT k q).map (lendC rw') = iLL (q.map fun t => M.getD t []) := by
  unfold cellsT iLL
  rw [List.map_map, List.map_map]
  refine List.map_congr_left fun t ht => ?_
  simp only [Function.comp, lendC, hr, h.row t (hq t ht), if_true]
theorem c_impl_MakePowers (l : List (List Int)) (hx : l.length ≤ 1048576) : AC Try.prog 27 [int2 l] (.tup [.ag [.tb 31 3 ((mkV l).map iL)], .im (bool (mkB l))]) := by
  refine AC.go (rs := [.cell 2 27, .tmp 3]) T_ok mixed Try.func27 rfl rfl rfl (by kernel_rfl) fun hl => ?_
  simp (maxSteps := 5000000) -dsimp only [↓gp, gq, reduceCtorEq, Nat.reduceEqDiff, Nat.reduceLT, Nat.reduceLeDiff, Nat.reduceAdd, Nat.reduceMul, Nat.reduceSub, Nat.reduceBEq, Int.reduceToNat, Int.reduceLE, Int.reduceLT, Int.reduceNeg, Nat.reduceMod, sid_ne1, sid_ne2, sid_inj, sid_mod, gT, TK.isInt, TK.agg, Array.toList]
  have hz : (List.replicate 27 (Value.bool false)).map PV.v = bL (givL (l.take 0)) := by rfl
  refine loop_of (fun (k : Nat) s => s.sl 2 = .ref 2 1 0 ∧ s.rw 2 = ⟨1, .box 27 [.v (.slice none 0 0)]⟩ ∧ s.sl 4 = .ref 4 1 0 ∧ s.rw 4 = ⟨1, .box 85 (bL (givL (l.take k)))⟩ ∧ s.sl 15 = int2 l ∧ s.sl 16 = int l.length ∧ s.sl 17 = int k ∧ (k ≤ l.length ∧ (l.take k).all isPow = true ∧ (∀ i, s.rw (sid 7 i) = ⟨0, .dead⟩) ∧ s.rw 91 = ⟨0, .dead⟩ ∧ ∀ i, s.rw (sid 91 i) = ⟨0, .dead⟩)) (fun k => l.length - k) (0) (by refine ⟨?_, ?_, ?_, ?_, ?_, ?_, ?_, ⟨by omega, rfl, fun i => by simp (maxSteps := 5000000) -dsimp only [gr, Nat.reduceEqDiff, Nat.reduceLT, Nat.reduceAdd, Nat.reduceMod, Nat.reduceBEq, sid_mod, sid_ne1, sid_ne2, sid_inj], by simp (maxSteps := 5000000) -dsimp only [gr, Nat.reduceEqDiff, Nat.reduceLT, Nat.reduceAdd, Nat.reduceMod, Nat.reduceBEq, sid_mod, sid_ne1, sid_ne2, sid_inj], fun i => by simp (maxSteps := 5000000) -dsimp only [gr, Nat.reduceEqDiff, Nat.reduceLT, Nat.reduceAdd, Nat.reduceMod, Nat.reduceBEq, sid_mod, sid_ne1, sid_ne2, sid_inj]⟩⟩ <;> (first | (simp (maxSteps := 5000000) -dsimp only [gr, Nat.reduceEqDiff, Nat.reduceLT, Nat.reduceAdd, Nat.reduceMod, Nat.reduceBEq, sid_mod, sid_ne1, sid_ne2, sid_inj, hz]; first | done | rfl | (simp; done)) | assumption | rfl)) ?_
  intro k sa ⟨h2a, r2a, h4a, r4a, h15a, h16a, h17a, hIa⟩
  obtain ⟨hk, hal, hdi, hf0, hfi⟩ := hIa
  simp (maxSteps := 5000000) -dsimp only [↓gp, gq, reduceCtorEq, Nat.reduceEqDiff, Nat.reduceLT, Nat.reduceLeDiff, Nat.reduceAdd, Nat.reduceMul, Nat.reduceSub, Nat.reduceBEq, Int.reduceToNat, Int.reduceLE, Int.reduceLT, Int.reduceNeg, Nat.reduceMod, sid_ne1, sid_ne2, sid_inj, sid_mod, gT, TK.isInt, TK.agg, Array.toList, h2a, r2a, h4a, r4a, h15a, h16a, h17a]
  refine ⟨fun h => ⟨h, h, askK_of (c_impl_isPowerList _) ?_⟩, fun h => ?_⟩
  · have e : (l.take (k + 1)).all isPow = isPow (l.getD k []) := by rw [take_snoc [] h, List.all_append, hal]; simp
    have hpm := fun (hp : isPow (l.getD k []) = true) => idx_expo hp
    have hgs := fun (hp : isPow (l.getD k []) = true) => givL_set (l.take k) hp
    have hgl := givL_len (l.take k)
    have hb := fun (hp : isPow (l.getD k []) = true) (j : Nat) (hj : j < 3) => isPow_bd hp hj
    have hl3 := fun (hp : isPow (l.getD k []) = true) => isPow_3 hp
    have etk := take_snoc [] h
    simp (maxSteps := 5000000) -dsimp only [↓gp, gq, reduceCtorEq, Nat.reduceEqDiff, Nat.reduceLT, Nat.reduceLeDiff, Nat.reduceAdd, Nat.reduceMul, Nat.reduceSub, Nat.reduceBEq, Int.reduceToNat, Int.reduceLE, Int.reduceLT, Int.reduceNeg, Nat.reduceMod, sid_ne1, sid_ne2, sid_inj, sid_mod, gT, TK.isInt, TK.agg, Array.toList, h2a, r2a, h4a, r4a, h15a, h16a, h17a]
    refine ⟨fun hp => ?_, fun hp => ?_⟩
    · have hno : ¬ (allP l = true) := fun ha => by
        have := List.all_eq_true.1 ha _ (getD_mem [] h)
        rw [this] at hp; cases hp
      have e1 : mkV l = [] := if_neg fun hh => hno hh.1
      have e2 : mkB l = false := by unfold mkB; cases ha : allP l with | true => exact absurd ha hno | false => rfl
      rw [e1, e2]; exact ⟨rfl, rfl⟩
    · have hp : isPow (l.getD k []) = true := by simpa using hp
      obtain ⟨hp1, hp2⟩ := hpm hp
      have b0 := hb hp 0 (by omega)
      have b1 := hb hp 1 (by omega)
      have b2 := hb hp 2 (by omega)
      have hl3 := hl3 hp
      have hgs := hgs hp
      rw [← etk] at hgs
      have hE : IntKind.i64.wrap (IntKind.i64.wrap (IntKind.i64.wrap ((l.getD k []).getD 0 0 * 9) + IntKind.i64.wrap ((l.getD k []).getD 1 0 * 3)) + (l.getD k []).getD 2 0) = ((idxP (l.getD k []) : Nat) : Int) := by
        rw [wrap_id (n := (l.getD k []).getD 0 0 * 9) (by omega) (by omega), wrap_id (n := (l.getD k []).getD 1 0 * 3) (by omega) (by omega), wrap_id (n := (l.getD k []).getD 0 0 * 9 + _) (by omega) (by omega), wrap_id (by omega) (by omega)]
        unfold idxP; omega
      rw [hE, Int.toNat_natCast, hgl]
      refine ⟨by kernel_rfl, by omega, by omega, by omega, by omega, by omega, by omega, by omega, by omega, by omega, by kernel_rfl, again_of (k + 1) (by refine ⟨?_, ?_, ?_, ?_, ?_, ?_, ?_, ⟨by omega, by rw [e]; exact hp, fun i => by simp (maxSteps := 5000000) -dsimp only [gr, Nat.reduceEqDiff, Nat.reduceLT, Nat.reduceAdd, Nat.reduceMod, Nat.reduceBEq, sid_mod, sid_ne1, sid_ne2, sid_inj, hdi], by simp (maxSteps := 5000000) -dsimp only [gr, Nat.reduceEqDiff, Nat.reduceLT, Nat.reduceAdd, Nat.reduceMod, Nat.reduceBEq, sid_mod, sid_ne1, sid_ne2, sid_inj, hf0], fun i => by simp (maxSteps := 5000000) -dsimp only [gr, Nat.reduceEqDiff, Nat.reduceLT, Nat.reduceAdd, Nat.reduceMod, Nat.reduceBEq, sid_mod, sid_ne1, sid_ne2, sid_inj, hfi]⟩⟩ <;> (first | (simp (maxSteps := 5000000) -dsimp only [gr, Nat.reduceEqDiff, Nat.reduceLT, Nat.reduceAdd, Nat.reduceMod, Nat.reduceBEq, sid_mod, sid_ne1, sid_ne2, sid_inj, h2a, r2a, h4a, r4a, h15a, h16a, h17a, hgs, wrap_nat h (show l.length ≤ 9223372036854775807 by omega)]; first | done | rfl | (simp; done)) | assumption | rfl)) (by first | omega | (simp only; omega) | (dsimp only; omega) | (show _ < _; simp; omega))⟩
  · have hkl : k = l.length := by omega
    subst hkl
    rw [List.take_length] at *
    refine loop_gin (k := 7) (v := (sa.rw 7).ver + 1) (e := 31) (e2 := 3) (by simp (maxSteps := 5000000) -dsimp only [gr, Nat.reduceEqDiff, Nat.reduceLT, Nat.reduceAdd, Nat.reduceMod, Nat.reduceBEq, sid_mod, sid_ne1, sid_ne2, sid_inj]) (fun i => by simp (maxSteps := 5000000) -dsimp only [gr, Nat.reduceEqDiff, Nat.reduceLT, Nat.reduceAdd, Nat.reduceMod, Nat.reduceBEq, sid_mod, sid_ne1, sid_ne2, sid_inj, hdi]) (fun (zb : Nat × Nat) s => match zb with | (i, v) => s.sl 2 = .ref 2 1 0 ∧ s.rw 2 = ⟨1, .box 27 [.v (.slice none 0 0)]⟩ ∧ s.sl 4 = .ref 4 1 0 ∧ s.rw 4 = ⟨1, .box 85 (bL (givL l))⟩ ∧ s.sl 7 = .own 7 v ∧ s.sl 8 = int (26 - (i : Int)) ∧ (i ≤ 27 ∧ TabG s.rw 7 v 31 3 (allO l i).length (allO l i) ∧ s.rw 91 = ⟨0, .dead⟩ ∧ ∀ i, s.rw (sid 91 i) = ⟨0, .dead⟩)) (fun (i, v) => 27 - i) ((0, (sa.rw 7).ver + 1)) (fun sX htX hslX hoX => (by refine ⟨?_, ?_, ?_, ?_, ?_, ?_, ⟨by omega, htX, by rw [hoX _ (by decide)]; simp (maxSteps := 5000000) -dsimp only [gr, Nat.reduceEqDiff, Nat.reduceLT, Nat.reduceAdd, Nat.reduceMod, Nat.reduceBEq, sid_mod, sid_ne1, sid_ne2, sid_inj, hf0], fun i => by rw [hoX _ (by rw [sid_mod]; decide)]; simp (maxSteps := 5000000) -dsimp only [gr, Nat.reduceEqDiff, Nat.reduceLT, Nat.reduceAdd, Nat.reduceMod, Nat.reduceBEq, sid_mod, sid_ne1, sid_ne2, sid_inj, hfi]⟩⟩ <;> (first | (simp (maxSteps := 5000000) -dsimp only [gr, Nat.reduceEqDiff, Nat.reduceLT, Nat.reduceAdd, Nat.reduceMod, Nat.reduceBEq, sid_mod, sid_ne1, sid_ne2, sid_inj, hslX, hoX, h2a, r2a, h4a, r4a, h15a, h16a, h17a, Int.natCast_zero, Int.sub_zero]; first | done | rfl | (simp; done)) | assumption | rfl))) ?_
    intro (i, v) sb ⟨h2b, r2b, h4b, r4b, h7b, h8b, hIb⟩
    obtain ⟨hi, hta, hf0, hfi⟩ := hIb
    have hol := allO_len l i
    by_cases h27 : i < 27
    · have hx : (26 : Int) - (i : Int) = ((26 - i : Nat) : Int) := by omega
      have hq1 : (((26 - i : Nat) : Int)).tdiv 9 = (((26 - i) / 9 : Nat) : Int) := by rw [Int.tdiv_eq_ediv_of_nonneg (by omega)]; omega
      have hw9 : IntKind.i64.wrap (((26 - i) / 9 : Nat) : Int) = (((26 - i) / 9 : Nat) : Int) := wrap_id (by omega) (by omega)
      have hw3 : IntKind.i64.wrap (((26 - i) / 3 : Nat) : Int) = (((26 - i) / 3 : Nat) : Int) := wrap_id (by omega) (by omega)
      have hq2 : (((26 - i : Nat) : Int)).tdiv 3 = (((26 - i) / 3 : Nat) : Int) := by rw [Int.tdiv_eq_ediv_of_nonneg (by omega)]; omega
      have hq3 : (((26 - i) / 3 : Nat) : Int).tmod 3 = (((26 - i) / 3 % 3 : Nat) : Int) := by rw [Int.tmod_eq_emod_of_nonneg (by omega)]; omega
      have hq4 : (((26 - i : Nat) : Int)).tmod 3 = (((26 - i) % 3 : Nat) : Int) := by rw [Int.tmod_eq_emod_of_nonneg (by omega)]; omega
      have hgl := givL_len l
      have hgg := givL_getD l (n := 26 - i) (by omega)
      have hee : iL [(((26 - i) / 9 : Nat) : Int), (((26 - i) / 3 % 3 : Nat) : Int), (((26 - i) % 3 : Nat) : Int)] = iL (expo (26 - i)) := rfl
      simp (maxSteps := 5000000) -dsimp only [↓gp, gq, reduceCtorEq, Nat.reduceEqDiff, Nat.reduceLT, Nat.reduceLeDiff, Nat.reduceAdd, Nat.reduceMul, Nat.reduceSub, Nat.reduceBEq, Int.reduceToNat, Int.reduceLE, Int.reduceLT, Int.reduceNeg, Nat.reduceMod, sid_ne1, sid_ne2, sid_inj, sid_mod, gT, TK.isInt, TK.agg, Array.toList, h2b, r2b, h4b, r4b, h7b, h8b, hx, hq1, hq2, hq3, hq4, hw9, hw3, Int.toNat_natCast, hgg]
      refine ⟨by omega, by omega, fun hin => ⟨by decide, by decide, by decide, by decide, orB_r ?_⟩, fun hin => ?_⟩
      · have e : allO l (i + 1) = allO l i ++ [expo (26 - i)] := if_pos hin
        have hw26 : IntKind.i64.wrap (((26 - i : Nat) : Int) - 1) = 26 - ((i + 1 : Nat) : Int) := by rw [wrap_id (by omega) (by omega)]; omega
        simp (maxSteps := 5000000) -dsimp only [↓gp, gq, reduceCtorEq, Nat.reduceEqDiff, Nat.reduceLT, Nat.reduceLeDiff, Nat.reduceAdd, Nat.reduceMul, Nat.reduceSub, Nat.reduceBEq, Int.reduceToNat, Int.reduceLE, Int.reduceLT, Int.reduceNeg, Nat.reduceMod, sid_ne1, sid_ne2, sid_inj, sid_mod, gT, TK.isInt, TK.agg, Array.toList, h2b, r2b, h4b, r4b, h7b, h8b, hx, hta.top, cellsT_length, List.length_range]
        refine ⟨by omega, again_grow0 (k := 7) (v := v + 1) (e := 31) (e2 := 3) (n := (allO l i).length) (d := 55) (vd := (sb.rw 55).ver + 1) (M := allO l i) (r := expo (26 - i)) (by simp (maxSteps := 5000000) -dsimp only [gr, Nat.reduceEqDiff, Nat.reduceLT, Nat.reduceAdd, Nat.reduceMod, Nat.reduceBEq, sid_mod, sid_ne1, sid_ne2, sid_inj, hta.top]) rfl (fun j hj => by simp (maxSteps := 5000000) -dsimp only [gr, Nat.reduceEqDiff, Nat.reduceLT, Nat.reduceAdd, Nat.reduceMod, Nat.reduceBEq, sid_mod, sid_ne1, sid_ne2, sid_inj, hta.row j hj]) (fun j hj => by simp (maxSteps := 5000000) -dsimp only [gr, Nat.reduceEqDiff, Nat.reduceLT, Nat.reduceAdd, Nat.reduceMod, Nat.reduceBEq, sid_mod, sid_ne1, sid_ne2, sid_inj, hta.rest j hj]) (by simp (maxSteps := 5000000) -dsimp only [gr, Nat.reduceEqDiff, Nat.reduceLT, Nat.reduceAdd, Nat.reduceMod, Nat.reduceBEq, sid_mod, sid_ne1, sid_ne2, sid_inj, h2b, r2b, h4b, r4b, h7b, h8b]; rfl) (by decide) (by decide) ((i + 1, v + 1)) (fun sX htX hslX hoX => (by refine ⟨?_, ?_, ?_, ?_, ?_, ?_, ⟨by omega, by dsimp only; rw [e, List.length_append]; exact htX, by rw [hoX _ (by decide) (by decide)]; simp (maxSteps := 5000000) -dsimp only [gr, Nat.reduceEqDiff, Nat.reduceLT, Nat.reduceAdd, Nat.reduceMod, Nat.reduceBEq, sid_mod, sid_ne1, sid_ne2, sid_inj, hf0], fun i => by rw [hoX _ (by rw [sid_mod]; decide) (by rw [beq_eq_false_iff_ne, sid_eq]; omega)]; simp (maxSteps := 5000000) -dsimp only [gr, Nat.reduceEqDiff, Nat.reduceLT, Nat.reduceAdd, Nat.reduceMod, Nat.reduceBEq, sid_mod, sid_ne1, sid_ne2, sid_inj, hfi]⟩⟩ <;> (first | (simp (maxSteps := 5000000) -dsimp only [gr, Nat.reduceEqDiff, Nat.reduceLT, Nat.reduceAdd, Nat.reduceMod, Nat.reduceBEq, sid_mod, sid_ne1, sid_ne2, sid_inj, hslX, hoX, h2b, r2b, h4b, r4b, h7b, h8b, h2b, r2b, h4b, r4b, h7b, h8b, hw26]; first | done | rfl | (simp; done)) | assumption | rfl))) (by first | omega | (simp only; omega) | (dsimp only; omega) | (show _ < _; simp; omega))⟩
      · have e : allO l (i + 1) = allO l i := if_neg (by rw [hin]; decide)
        have hw26 : IntKind.i64.wrap (((26 - i : Nat) : Int) - 1) = 26 - ((i + 1 : Nat) : Int) := by rw [wrap_id (by omega) (by omega)]; omega
        exact again_of ((i + 1, v)) (by refine ⟨?_, ?_, ?_, ?_, ?_, ?_, ⟨by omega, by dsimp only; rw [e]; exact hta.same (by simp (maxSteps := 5000000) -dsimp only [gr, Nat.reduceEqDiff, Nat.reduceLT, Nat.reduceAdd, Nat.reduceMod, Nat.reduceBEq, sid_mod, sid_ne1, sid_ne2, sid_inj]) (fun x => by simp (maxSteps := 5000000) -dsimp only [gr, Nat.reduceEqDiff, Nat.reduceLT, Nat.reduceAdd, Nat.reduceMod, Nat.reduceBEq, sid_mod, sid_ne1, sid_ne2, sid_inj]), by simp (maxSteps := 5000000) -dsimp only [gr, Nat.reduceEqDiff, Nat.reduceLT, Nat.reduceAdd, Nat.reduceMod, Nat.reduceBEq, sid_mod, sid_ne1, sid_ne2, sid_inj, hf0], fun i => by simp (maxSteps := 5000000) -dsimp only [gr, Nat.reduceEqDiff, Nat.reduceLT, Nat.reduceAdd, Nat.reduceMod, Nat.reduceBEq, sid_mod, sid_ne1, sid_ne2, sid_inj, hfi]⟩⟩ <;> (first | (simp (maxSteps := 5000000) -dsimp only [gr, Nat.reduceEqDiff, Nat.reduceLT, Nat.reduceAdd, Nat.reduceMod, Nat.reduceBEq, sid_mod, sid_ne1, sid_ne2, sid_inj, h2b, r2b, h4b, r4b, h7b, h8b, h2b, r2b, h4b, r4b, h7b, h8b, hw26]; first | done | rfl | (simp; done)) | assumption | rfl)) (by first | omega | (simp only; omega) | (dsimp only; omega) | (show _ < _; simp; omega))
    · have hi2 : i = 27 := by omega
      subst hi2
      have hn2 : ((0 : Int) ≤ 26 - ((27 : Nat) : Int)) = False := eq_false (by decide)
      have hout := qO_mkO hal
      have hA3 : ∀ t, t < (allO l 27).length → ((allO l 27).getD t []).length = 3 := fun t ht => by
        have hm := getD_mem [] ht
        rw [allO_eq] at hm
        obtain ⟨n, _, hn⟩ := List.mem_map.1 hm
        rw [allO_eq, ← hn]; rfl
      generalize hAe : allO l 27 = A at *
      simp (maxSteps := 5000000) -dsimp only [↓gp, gq, reduceCtorEq, Nat.reduceEqDiff, Nat.reduceLT, Nat.reduceLeDiff, Nat.reduceAdd, Nat.reduceMul, Nat.reduceSub, Nat.reduceBEq, Int.reduceToNat, Int.reduceLE, Int.reduceLT, Int.reduceNeg, Nat.reduceMod, sid_ne1, sid_ne2, sid_inj, sid_mod, gT, TK.isInt, TK.agg, Array.toList, h2b, r2b, h4b, r4b, h7b, h8b, hn2, hta.top, cellsT_length, List.length_range]
      have hq0 : cellsT 91 (List.range 0) = cellsT 7 (qO A 0) := by simp only [cellsT, qO, List.range_zero, List.filter_nil, List.map_nil]
      refine loop_nilbox (k := 91) (e := 31) (e2 := 3) (j := 9) (v := (sb.rw 9).ver + 1) (t := 27) (o := 0) (c := [.v (.slice none 0 0)]) (c' := [.own 91 1]) (by simp (maxSteps := 5000000) -dsimp only [gr, Nat.reduceEqDiff, Nat.reduceLT, Nat.reduceAdd, Nat.reduceMod, Nat.reduceBEq, sid_mod, sid_ne1, sid_ne2, sid_inj]) rfl rfl (by decide) (by simp (maxSteps := 5000000) -dsimp only [gr, Nat.reduceEqDiff, Nat.reduceLT, Nat.reduceAdd, Nat.reduceMod, Nat.reduceBEq, sid_mod, sid_ne1, sid_ne2, sid_inj, hf0]) (fun i => by simp (maxSteps := 5000000) -dsimp only [gr, Nat.reduceEqDiff, Nat.reduceLT, Nat.reduceAdd, Nat.reduceMod, Nat.reduceBEq, sid_mod, sid_ne1, sid_ne2, sid_inj, hfi]) (fun (zc : Nat × Nat) s => match zc with | (k, w) => s.sl 2 = .ref 2 1 0 ∧ s.rw 2 = ⟨1, .box 27 [.v (.slice none 0 0)]⟩ ∧ s.sl 7 = .own 7 v ∧ s.rw 7 = ⟨v, .tab 31 (cellsT 7 (List.range A.length))⟩ ∧ s.sl 9 = .ref 9 ((sb.rw 9).ver + 1) 0 ∧ s.rw 9 = ⟨(sb.rw 9).ver + 1, .box 27 [.own 91 w]⟩ ∧ s.rw 91 = ⟨w, .tab 31 (cellsT 7 (qO A k))⟩ ∧ s.sl 58 = .own 7 v ∧ s.sl 59 = int A.length ∧ s.sl 60 = int k ∧ (k ≤ A.length ∧ TabG s.rw 7 v 31 3 A.length A)) (fun (k, w) => A.length - k) ((0, 1)) (fun sX htX hslX hoX => (by refine ⟨?_, ?_, ?_, ?_, ?_, ?_, ?_, ?_, ?_, ?_, ⟨by omega, hta.same (by simp (maxSteps := 5000000) -dsimp only [gr, Nat.reduceEqDiff, Nat.reduceLT, Nat.reduceAdd, Nat.reduceMod, Nat.reduceBEq, sid_mod, sid_ne1, sid_ne2, sid_inj, hoX]) (fun x => by rw [hoX _ (by rw [sid_mod]; decide) (by rw [beq_eq_false_iff_ne, sid_eq]; omega)]; simp (maxSteps := 5000000) -dsimp only [gr, Nat.reduceEqDiff, Nat.reduceLT, Nat.reduceAdd, Nat.reduceMod, Nat.reduceBEq, sid_mod, sid_ne1, sid_ne2, sid_inj])⟩⟩ <;> (first | (simp (maxSteps := 5000000) -dsimp only [gr, Nat.reduceEqDiff, Nat.reduceLT, Nat.reduceAdd, Nat.reduceMod, Nat.reduceBEq, sid_mod, sid_ne1, sid_ne2, sid_inj, hslX, hoX, h2b, r2b, h4b, r4b, h7b, h8b, hta.top, htX.2, htX.1.top, hq0]; first | done | rfl | (simp; done)) | assumption | rfl))) ?_
      intro (k, w) sc ⟨h2c, r2c, h7c, r7c, h9c, r9c, r91c, h58c, h59c, h60c, hIc⟩
      obtain ⟨hk, htc⟩ := hIc
      have hql := qO_len A k
      simp (maxSteps := 5000000) -dsimp only [↓gp, gq, reduceCtorEq, Nat.reduceEqDiff, Nat.reduceLT, Nat.reduceLeDiff, Nat.reduceAdd, Nat.reduceMul, Nat.reduceSub, Nat.reduceBEq, Int.reduceToNat, Int.reduceLE, Int.reduceLT, Int.reduceNeg, Nat.reduceMod, sid_ne1, sid_ne2, sid_inj, sid_mod, gT, TK.isInt, TK.agg, Array.toList, h2c, r2c, h7c, r7c, h9c, r9c, r91c, h58c, h59c, h60c, cellsT_length, List.length_range]
      refine ⟨fun h => ?_, fun h => ?_⟩
      · have hrk := htc.row k h
        have hz2 : leI A k 0 = true := rfl
        simp (maxSteps := 5000000) -dsimp only [↓gp, gq, reduceCtorEq, Nat.reduceEqDiff, Nat.reduceLT, Nat.reduceLeDiff, Nat.reduceAdd, Nat.reduceMul, Nat.reduceSub, Nat.reduceBEq, Int.reduceToNat, Int.reduceLE, Int.reduceLT, Int.reduceNeg, Nat.reduceMod, sid_ne1, sid_ne2, sid_inj, sid_mod, gT, TK.isInt, TK.agg, Array.toList, h2c, r2c, h7c, r7c, h9c, r9c, r91c, h58c, h59c, h60c, cellsT_length, List.length_range, ld_cellsT, rangeG h, hrk]
        refine ⟨h, h, ?_⟩
        refine loop_of (fun (j : Nat) s => s.sl 2 = .ref 2 1 0 ∧ s.rw 2 = ⟨1, .box 27 [.v (.slice none 0 0)]⟩ ∧ s.sl 7 = .own 7 v ∧ s.rw 7 = ⟨v, .tab 31 (cellsT 7 (List.range A.length))⟩ ∧ s.sl 9 = .ref 9 ((sb.rw 9).ver + 1) 0 ∧ s.rw 9 = ⟨(sb.rw 9).ver + 1, .box 27 [.own 91 w]⟩ ∧ s.rw 91 = ⟨w, .tab 31 (cellsT 7 (qO A k))⟩ ∧ s.sl 58 = .own 7 v ∧ s.sl 59 = int A.length ∧ s.sl 60 = int k ∧ s.sl 10 = int k ∧ s.sl 11 = .own (sid 7 k) 1 ∧ s.sl 12 = bool (leI A k j) ∧ s.sl 65 = .own 7 v ∧ s.sl 66 = int A.length ∧ s.sl 67 = int j ∧ (j ≤ A.length ∧ TabG s.rw 7 v 31 3 A.length A)) (fun j => A.length - j) (0) (by refine ⟨?_, ?_, ?_, ?_, ?_, ?_, ?_, ?_, ?_, ?_, ?_, ?_, ?_, ?_, ?_, ?_, ⟨by omega, htc.same (by simp (maxSteps := 5000000) -dsimp only [gr, Nat.reduceEqDiff, Nat.reduceLT, Nat.reduceAdd, Nat.reduceMod, Nat.reduceBEq, sid_mod, sid_ne1, sid_ne2, sid_inj]) (fun x => by simp (maxSteps := 5000000) -dsimp only [gr, Nat.reduceEqDiff, Nat.reduceLT, Nat.reduceAdd, Nat.reduceMod, Nat.reduceBEq, sid_mod, sid_ne1, sid_ne2, sid_inj])⟩⟩ <;> (first | (simp (maxSteps := 5000000) -dsimp only [gr, Nat.reduceEqDiff, Nat.reduceLT, Nat.reduceAdd, Nat.reduceMod, Nat.reduceBEq, sid_mod, sid_ne1, sid_ne2, sid_inj, h2c, r2c, h7c, r7c, h9c, r9c, r91c, h58c, h59c, h60c, hz2]; first | done | rfl | (simp; done)) | assumption | rfl)) ?_
        intro j sd ⟨h2d, r2d, h7d, r7d, h9d, r9d, r91d, h58d, h59d, h60d, h10d, h11d, h12d, h65d, h66d, h67d, hId⟩
        obtain ⟨hj, htd⟩ := hId
        have hrk := htd.row k h
        have hls := leI_succ A k j
        simp (maxSteps := 5000000) -dsimp only [↓gp, gq, reduceCtorEq, Nat.reduceEqDiff, Nat.reduceLT, Nat.reduceLeDiff, Nat.reduceAdd, Nat.reduceMul, Nat.reduceSub, Nat.reduceBEq, Int.reduceToNat, Int.reduceLE, Int.reduceLT, Int.reduceNeg, Nat.reduceMod, sid_ne1, sid_ne2, sid_inj, sid_mod, gT, TK.isInt, TK.agg, Array.toList, h2d, r2d, h7d, r7d, h9d, r9d, r91d, h58d, h59d, h60d, h10d, h11d, h12d, h65d, h66d, h67d, hrk]
        refine ⟨fun h2 => ?_, fun h2 => ?_⟩
        · have hrj := htd.row j h2
          simp (maxSteps := 5000000) -dsimp only [↓gp, gq, reduceCtorEq, Nat.reduceEqDiff, Nat.reduceLT, Nat.reduceLeDiff, Nat.reduceAdd, Nat.reduceMul, Nat.reduceSub, Nat.reduceBEq, Int.reduceToNat, Int.reduceLE, Int.reduceLT, Int.reduceNeg, Nat.reduceMod, sid_ne1, sid_ne2, sid_inj, sid_mod, gT, TK.isInt, TK.agg, Array.toList, h2d, r2d, h7d, r7d, h9d, r9d, r91d, h58d, h59d, h60d, h10d, h11d, h12d, h65d, h66d, h67d, cellsT_length, List.length_range, ld_cellsT, rangeG h2, hrj, hrk]
          have hdv := c_impl_divides (A.getD j []) (A.getD k []) (by rw [hA3 j h2, hA3 k h]; exact Nat.le_refl _)
          refine ⟨h2, h2, fun hne => askK_of hdv ?_, fun hne => ?_⟩
          · have hne : ¬ j = k := fun e => by rw [e] at hne; simp at hne
            rw [decide_eq_false hne, Bool.false_or] at hls
            simp (maxSteps := 5000000) -dsimp only [↓gp, gq, reduceCtorEq, Nat.reduceEqDiff, Nat.reduceLT, Nat.reduceLeDiff, Nat.reduceAdd, Nat.reduceMul, Nat.reduceSub, Nat.reduceBEq, Int.reduceToNat, Int.reduceLE, Int.reduceLT, Int.reduceNeg, Nat.reduceMod, sid_ne1, sid_ne2, sid_inj, sid_mod, gT, TK.isInt, TK.agg, Array.toList, h2d, r2d, h7d, r7d, h9d, r9d, r91d, h58d, h59d, h60d, h10d, h11d, h12d, h65d, h66d, h67d, cellsT_length, List.length_range, ld_cellsT, rangeG h2, hrj, hrk]
            refine ⟨fun hdd => ?_, fun hdd => ?_⟩
            · rw [hdd, Bool.not_true, Bool.and_false] at hls
              exact again_of (j + 1) (by refine ⟨?_, ?_, ?_, ?_, ?_, ?_, ?_, ?_, ?_, ?_, ?_, ?_, ?_, ?_, ?_, ?_, ⟨by omega, htd.same (by simp (maxSteps := 5000000) -dsimp only [gr, Nat.reduceEqDiff, Nat.reduceLT, Nat.reduceAdd, Nat.reduceMod, Nat.reduceBEq, sid_mod, sid_ne1, sid_ne2, sid_inj]) (fun x => by simp (maxSteps := 5000000) -dsimp only [gr, Nat.reduceEqDiff, Nat.reduceLT, Nat.reduceAdd, Nat.reduceMod, Nat.reduceBEq, sid_mod, sid_ne1, sid_ne2, sid_inj])⟩⟩ <;> (first | (simp (maxSteps := 5000000) -dsimp only [gr, Nat.reduceEqDiff, Nat.reduceLT, Nat.reduceAdd, Nat.reduceMod, Nat.reduceBEq, sid_mod, sid_ne1, sid_ne2, sid_inj, h2d, r2d, h7d, r7d, h9d, r9d, r91d, h58d, h59d, h60d, h10d, h11d, h12d, h65d, h66d, h67d, hls, wrap_nat h2 (show A.length ≤ 9223372036854775807 by omega)]; first | done | rfl | (simp; done)) | assumption | rfl)) (by first | omega | (simp only; omega) | (dsimp only; omega) | (show _ < _; simp; omega))
            · rw [hdd, Bool.not_false, Bool.and_true] at hls
              exact again_of (j + 1) (by refine ⟨?_, ?_, ?_, ?_, ?_, ?_, ?_, ?_, ?_, ?_, ?_, ?_, ?_, ?_, ?_, ?_, ⟨by omega, htd.same (by simp (maxSteps := 5000000) -dsimp only [gr, Nat.reduceEqDiff, Nat.reduceLT, Nat.reduceAdd, Nat.reduceMod, Nat.reduceBEq, sid_mod, sid_ne1, sid_ne2, sid_inj]) (fun x => by simp (maxSteps := 5000000) -dsimp only [gr, Nat.reduceEqDiff, Nat.reduceLT, Nat.reduceAdd, Nat.reduceMod, Nat.reduceBEq, sid_mod, sid_ne1, sid_ne2, sid_inj])⟩⟩ <;> (first | (simp (maxSteps := 5000000) -dsimp only [gr, Nat.reduceEqDiff, Nat.reduceLT, Nat.reduceAdd, Nat.reduceMod, Nat.reduceBEq, sid_mod, sid_ne1, sid_ne2, sid_inj, h2d, r2d, h7d, r7d, h9d, r9d, r91d, h58d, h59d, h60d, h10d, h11d, h12d, h65d, h66d, h67d, hls, wrap_nat h2 (show A.length ≤ 9223372036854775807 by omega)]; first | done | rfl | (simp; done)) | assumption | rfl)) (by first | omega | (simp only; omega) | (dsimp only; omega) | (show _ < _; simp; omega))
          · have hne : j = k := by simp at hne; omega
            rw [decide_eq_true hne, Bool.true_or, Bool.and_true] at hls
            exact again_of (j + 1) (by refine ⟨?_, ?_, ?_, ?_, ?_, ?_, ?_, ?_, ?_, ?_, ?_, ?_, ?_, ?_, ?_, ?_, ⟨by omega, htd.same (by simp (maxSteps := 5000000) -dsimp only [gr, Nat.reduceEqDiff, Nat.reduceLT, Nat.reduceAdd, Nat.reduceMod, Nat.reduceBEq, sid_mod, sid_ne1, sid_ne2, sid_inj]) (fun x => by simp (maxSteps := 5000000) -dsimp only [gr, Nat.reduceEqDiff, Nat.reduceLT, Nat.reduceAdd, Nat.reduceMod, Nat.reduceBEq, sid_mod, sid_ne1, sid_ne2, sid_inj])⟩⟩ <;> (first | (simp (maxSteps := 5000000) -dsimp only [gr, Nat.reduceEqDiff, Nat.reduceLT, Nat.reduceAdd, Nat.reduceMod, Nat.reduceBEq, sid_mod, sid_ne1, sid_ne2, sid_inj, h2d, r2d, h7d, r7d, h9d, r9d, r91d, h58d, h59d, h60d, h10d, h11d, h12d, h65d, h66d, h67d, hls, wrap_nat h2 (show A.length ≤ 9223372036854775807 by omega)]; first | done | rfl | (simp; done)) | assumption | rfl)) (by first | omega | (simp only; omega) | (dsimp only; omega) | (show _ < _; simp; omega))
        · have hj2 : j = A.length := by omega
          subst hj2
          refine ⟨fun hle => orB_r ?_, fun hle => ?_⟩
          · have hq := qO_yes hle
            have hqc : cellsT 7 (qO A (k + 1)) = cellsT 7 (qO A k) ++ [.own (sid 7 k) 1] := by rw [hq]; simp [cellsT]
            simp (maxSteps := 5000000) -dsimp only [↓gp, gq, reduceCtorEq, Nat.reduceEqDiff, Nat.reduceLT, Nat.reduceLeDiff, Nat.reduceAdd, Nat.reduceMul, Nat.reduceSub, Nat.reduceBEq, Int.reduceToNat, Int.reduceLE, Int.reduceLT, Int.reduceNeg, Nat.reduceMod, sid_ne1, sid_ne2, sid_inj, sid_mod, gT, TK.isInt, TK.agg, Array.toList, h2d, r2d, h7d, r7d, h9d, r9d, r91d, h58d, h59d, h60d, h10d, h11d, h12d, h65d, h66d, h67d, hrk, cellsT_length]
            rw [← hq]
            exact ⟨by omega, again_of ((k + 1, w + 1)) (by refine ⟨?_, ?_, ?_, ?_, ?_, ?_, ?_, ?_, ?_, ?_, ⟨by dsimp only; omega, htd.same (by simp (maxSteps := 5000000) -dsimp only [gr, Nat.reduceEqDiff, Nat.reduceLT, Nat.reduceAdd, Nat.reduceMod, Nat.reduceBEq, sid_mod, sid_ne1, sid_ne2, sid_inj]) (fun x => by simp (maxSteps := 5000000) -dsimp only [gr, Nat.reduceEqDiff, Nat.reduceLT, Nat.reduceAdd, Nat.reduceMod, Nat.reduceBEq, sid_mod, sid_ne1, sid_ne2, sid_inj])⟩⟩ <;> (first | (simp (maxSteps := 5000000) -dsimp only [gr, Nat.reduceEqDiff, Nat.reduceLT, Nat.reduceAdd, Nat.reduceMod, Nat.reduceBEq, sid_mod, sid_ne1, sid_ne2, sid_inj, h2c, r2c, h7c, r7c, h9c, r9c, r91c, h58c, h59c, h60c, h2d, r2d, h7d, r7d, h9d, r9d, r91d, h58d, h59d, h60d, h10d, h11d, h12d, h65d, h66d, h67d, hq, wrap_nat h (show A.length ≤ 9223372036854775807 by omega)]; first | done | rfl | (simp; done)) | assumption | rfl)) (by first | omega | (simp only; omega) | (dsimp only; omega) | (show _ < _; simp; omega))⟩
          · have hq := qO_no hle
            exact again_of ((k + 1, w)) (by refine ⟨?_, ?_, ?_, ?_, ?_, ?_, ?_, ?_, ?_, ?_, ⟨by dsimp only; omega, htd.same (by simp (maxSteps := 5000000) -dsimp only [gr, Nat.reduceEqDiff, Nat.reduceLT, Nat.reduceAdd, Nat.reduceMod, Nat.reduceBEq, sid_mod, sid_ne1, sid_ne2, sid_inj]) (fun x => by simp (maxSteps := 5000000) -dsimp only [gr, Nat.reduceEqDiff, Nat.reduceLT, Nat.reduceAdd, Nat.reduceMod, Nat.reduceBEq, sid_mod, sid_ne1, sid_ne2, sid_inj])⟩⟩ <;> (first | (simp (maxSteps := 5000000) -dsimp only [gr, Nat.reduceEqDiff, Nat.reduceLT, Nat.reduceAdd, Nat.reduceMod, Nat.reduceBEq, sid_mod, sid_ne1, sid_ne2, sid_inj, h2c, r2c, h7c, r7c, h9c, r9c, r91c, h58c, h59c, h60c, h2d, r2d, h7d, r7d, h9d, r9d, r91d, h58d, h59d, h60d, h10d, h11d, h12d, h65d, h66d, h67d, hq, wrap_nat h (show A.length ≤ 9223372036854775807 by omega)]; first | done | rfl | (simp; done)) | assumption | rfl)) (by first | omega | (simp only; omega) | (dsimp only; omega) | (show _ < _; simp; omega))
      · have hk2 : k = A.length := by omega
        subst hk2
        rw [lend_q htc (qO_lt A A.length) (fun j => rfl), hout]
        refine askK_of (c_impl_ArePowers _) ?_
        rw [← p19_21]
        simp (maxSteps := 5000000) -dsimp only [↓gp, gq, reduceCtorEq, Nat.reduceEqDiff, Nat.reduceLT, Nat.reduceLeDiff, Nat.reduceAdd, Nat.reduceMul, Nat.reduceSub, Nat.reduceBEq, Int.reduceToNat, Int.reduceLE, Int.reduceLT, Int.reduceNeg, Nat.reduceMod, sid_ne1, sid_ne2, sid_inj, sid_mod, gT, TK.isInt, TK.agg, Array.toList, h2c, r2c, h7c, r7c, h9c, r9c, r91c, h58c, h59c, h60c]
        refine ⟨fun hp => ?_, fun hp => ?_⟩
        · have hp : p19 (mkO l 27) = false := by simpa using hp
          have e1 : mkV l = [] := if_neg fun hh => by rw [hh.2] at hp; cases hp
          have e2 : mkB l = false := by unfold mkB; rw [hp, Bool.and_false]
          rw [e1, e2]; exact ⟨rfl, rfl⟩
        · have hp : p19 (mkO l 27) = true := by simpa using hp
          have hal2 : allP l = true := hal
          have e1 : mkV l = mkO l 27 := if_pos ⟨hal2, hp⟩
          have e2 : mkB l = true := by unfold mkB; rw [hp, hal2]; rfl
          rw [e1, e2]
          have hqn := qO_nodup A A.length
          have hqlt := qO_lt A A.length
          refine out0_tabQ (k2 := 7) (q := qO A A.length) (by simp (maxSteps := 5000000) -dsimp only [gr, Nat.reduceEqDiff, Nat.reduceLT, Nat.reduceAdd, Nat.reduceMod, Nat.reduceBEq, sid_mod, sid_ne1, sid_ne2, sid_inj, h2c, r2c, h7c, r7c, h9c, r9c, r91c, h58c, h59c, h60c]) (by decide) (by decide) (fun j hj => by have := hqlt j hj; omega) (by rw [← hout, List.length_map]) (fun i hi => ?_) ?_
          · have := htc.row _ (hqlt _ (List.getElem_mem hi))
            have e3 : (mkO l 27).getD i [] = A.getD ((qO A A.length)[i]) [] := by rw [← hout]; simp [List.getD, hi]
            rw [e3]
            simp (maxSteps := 5000000) -dsimp only [gr, Nat.reduceEqDiff, Nat.reduceLT, Nat.reduceAdd, Nat.reduceMod, Nat.reduceBEq, sid_mod, sid_ne1, sid_ne2, sid_inj, this]
          · simp only [kk, outL]
            exact ⟨rfl, by simpa using idsQ_nd (k := 91) (k2 := 7) (by decide) hqn⟩
end Go.Proofs.Ytnfpeinbdfmlnaa
