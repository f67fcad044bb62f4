/- DERIVED by an AI agent. -/
import Derived.Test.YtnfpeinbdfmlnaaQ1
import Derived.Test.YtnfpeinbdfmlnaaP1
import Derived.Test.YtnfpeinbdfmlnaaA14
namespace Go.Proofs.Ytnfpeinbdfmlnaa
open Go.Abs
set_option linter.unusedSimpArgs false
set_option linter.unusedVariables false

theorem p19_all {x : List (List Int)} (h : p19 x = true) : (∀ k, k < x.length → ok19 x k) ∧ x.length ≤ 5 := by
  by_cases hh : (∀ k, k < x.length → ok19 x k) ∧ x.length ≤ 5
  · exact hh
  · rw [p19_not hh] at h; cases h
theorem bit_zero : ∀ s, s < 64 → ∀ i, i < 6 → (iand .i64 (ishr .i64 (s : Nat) (i : Nat)) 1 == 0) = !s.testBit i := by
  have h : ((List.range 64).all fun s => (List.range 6).all fun i => (iand .i64 (ishr .i64 (s : Nat) (i : Nat)) 1 == 0) == !s.testBit i) = true := by decide +kernel
  intro s hs i hi
  have := List.all_eq_true.1 (List.all_eq_true.1 h s (List.mem_range.2 hs)) i (List.mem_range.2 hi)
  simpa using this
/-- The first exponents raised to those of another list. -/
def mxI (a b : List Int) (i : Nat) : List Int := (List.range 3).map fun j => if j < i then max (a.getD j 0) (b.getD j 0) else a.getD j 0
theorem mxI_len (a b : List Int) (i : Nat) : (mxI a b i).length = 3 := by simp [mxI]
theorem mxI_getD (a b : List Int) (i : Nat) {j : Nat} (h : j < 3) : (mxI a b i).getD j 0 = if j < i then max (a.getD j 0) (b.getD j 0) else a.getD j 0 := by simp [mxI, List.getD, h]
theorem mxI_zero {a b : List Int} (h : a.length = 3) : mxI a b 0 = a := by
  refine List.ext_getElem (by rw [mxI_len, h]) fun j h1 h2 => ?_
  simp [mxI, List.getD, h2]
theorem mxI_set (a b : List Int) {i : Nat} (h : i < 3) : (mxI a b i).set i (max (a.getD i 0) (b.getD i 0)) = mxI a b (i + 1) := by
  refine List.ext_getElem (by simp [mxI]) fun j h1 h2 => ?_
  rw [List.getElem_set]
  simp only [mxI, List.getElem_map, List.getElem_range]
  by_cases e : i = j
  · subst e; simp
  · rw [if_neg e]
    by_cases h3 : j < i
    · rw [if_pos h3, if_pos (by omega)]
    · rw [if_neg h3, if_neg (by omega)]
def mostP (x : List (List Int)) (s : Nat) : Nat → List Int
  | 0 => [0, 0, 0]
  | k + 1 => if s.testBit k = true then mxI (mostP x s k) (x.getD k []) 3 else mostP x s k
theorem mostP_len (x : List (List Int)) (s k : Nat) : (mostP x s k).length = 3 := by
  induction k with
  | zero => rfl
  | succ k ih => unfold mostP; split; exact mxI_len _ _ _; exact ih
theorem isPow_bd {r : List Int} (h : isPow r = true) {j : Nat} (hj : j < 3) : 0 ≤ r.getD j 0 ∧ r.getD j 0 ≤ 2 := by
  have hl := isPow_3 h
  simp only [isPow, Bool.and_eq_true, List.all_eq_true, decide_eq_true_eq] at h
  exact h.2 _ (getD_mem 0 (by omega))
theorem mostP_bd {x : List (List Int)} (h : p19 x = true) (s : Nat) : ∀ k, k ≤ x.length → ∀ j, j < 3 → 0 ≤ (mostP x s k).getD j 0 ∧ (mostP x s k).getD j 0 ≤ 2 := by
  intro k
  induction k with
  | zero => intro _ j hj; match j, hj with | 0, _ => simp [mostP] | 1, _ => simp [mostP] | 2, _ => simp [mostP]
  | succ k ih =>
    intro hk j hj
    have h1 := ih (by omega) j hj
    have h2 := isPow_bd ((p19_all h).1 k (by omega)).1 hj
    unfold mostP
    split
    · rw [mxI_getD _ _ _ hj, if_pos hj]; omega
    · exact h1
def degP (m : List Int) : Nat := (m.getD 0 0 + m.getD 1 0 + m.getD 2 0).toNat
def sgnN (s : Nat) : Int := 1 - 2 * ((popN s % 2 : Nat) : Int)
def outP (x : List (List Int)) : Nat → List Int
  | 0 => List.replicate 7 0
  | s + 1 => (outP x s).set (degP (mostP x s x.length)) ((outP x s).getD (degP (mostP x s x.length)) 0 + sgnN s)
theorem outP_len (x : List (List Int)) (s : Nat) : (outP x s).length = 7 := by
  induction s with
  | zero => rfl
  | succ s ih => unfold outP; simp [ih]
theorem sgnN_bd (s : Nat) : -1 ≤ sgnN s ∧ sgnN s ≤ 1 := by unfold sgnN; omega
theorem outP_bd (x : List (List Int)) : ∀ (s j : Nat), -(s : Int) ≤ (outP x s).getD j 0 ∧ (outP x s).getD j 0 ≤ s := by
  intro s
  induction s with
  | zero =>
    intro j
    have : (outP x 0).getD j 0 = 0 := by
      show (List.replicate 7 (0 : Int)).getD j 0 = 0
      by_cases h : j < 7
      · rw [List.getD_eq_getElem?_getD, List.getElem?_replicate]; simp [h]
      · rw [List.getD_eq_getElem?_getD, List.getElem?_replicate]; simp [h]
    rw [this]; omega
  | succ s ih =>
    intro j
    have h1 := ih j
    have h2 := ih (degP (mostP x s x.length))
    have h3 := sgnN_bd s
    unfold outP
    generalize degP (mostP x s x.length) = d at *
    by_cases e : j = d
    · subst e
      by_cases hl : j < (outP x s).length
      · rw [show ((outP x s).set j ((outP x s).getD j 0 + sgnN s)).getD j 0 = (outP x s).getD j 0 + sgnN s by simp [List.getD, hl]]; omega
      · rw [show ((outP x s).set j ((outP x s).getD j 0 + sgnN s)).getD j 0 = 0 by simp [List.getD, hl]]; omega
    · rw [show ((outP x s).set d ((outP x s).getD d 0 + sgnN s)).getD j 0 = (outP x s).getD j 0 by simp [List.getD, List.getElem?_set_ne (Ne.symm e)]]; omega
def sgnP (s : Nat) : Nat → Int | 0 => 1 | k + 1 => if s.testBit k = true then -sgnP s k else sgnP s k
theorem sgnP_all : ∀ n, n ≤ 5 → ∀ s, s < 2 ^ n → sgnP s n = sgnN s := by
  have h : ((List.range 6).all fun n => (List.range (2 ^ n)).all fun s => sgnP s n == 1 - 2 * ((pop6 s % 2 : Nat) : Int)) = true := by decide +kernel
  intro n hn s hs
  have := List.all_eq_true.1 (List.all_eq_true.1 h n (List.mem_range.2 (by omega))) s (List.mem_range.2 hs)
  have h64 := two_pow_le (m := n) (by omega)
  unfold sgnN
  rw [popN_6 (by omega)]
  simpa using this
theorem sgnP_bd (s k : Nat) : sgnP s k = 1 ∨ sgnP s k = -1 := by
  induction k with
  | zero => exact .inl rfl
  | succ k ih => unfold sgnP; split <;> omega
noncomputable def powS (x : List (List Int)) : List Int := if p19 x = true then outP x (2 ^ x.length) else []
theorem c_spec_PowerSums (x : List (List Int)) : AC Try.prog 18 [.ag [int2 x]] (.fr 3 1 (iL (powS x))) := by
  refine AC.go (rs := [.tmp 2]) T_ok mixed Try.func18 rfl rfl rfl (by kernel_rfl) fun hl => ?_
  simp only [lens_cons, lens_nil, and_true, lens2, List.mem_singleton, forall_eq, lens1_iLL] at hl
  simp (maxSteps := 5000000) -dsimp only [↓gp, gq, reduceCtorEq, Nat.reduceEqDiff, Nat.reduceLT, Nat.reduceLeDiff, Nat.reduceAdd, Nat.reduceMul, Nat.reduceSub, Nat.reduceBEq, Int.reduceToNat, Int.reduceLE, Int.reduceLT, Int.reduceNeg, Nat.reduceMod, sid_ne1, sid_ne2, sid_inj, sid_mod, gT, TK.isInt, TK.agg, Array.toList]
  refine askK_of (c_spec_ArePowers x) ?_
  simp (maxSteps := 5000000) -dsimp only [↓gp, gq, reduceCtorEq, Nat.reduceEqDiff, Nat.reduceLT, Nat.reduceLeDiff, Nat.reduceAdd, Nat.reduceMul, Nat.reduceSub, Nat.reduceBEq, Int.reduceToNat, Int.reduceLE, Int.reduceLT, Int.reduceNeg, Nat.reduceMod, sid_ne1, sid_ne2, sid_inj, sid_mod, gT, TK.isInt, TK.agg, Array.toList]
  refine ⟨fun hp => ?_, fun hp => ?_⟩
  · rw [powS, if_neg (by intro h; rw [h] at hp; cases hp)]; rfl
  · have hp1 : p19 x = true := by simpa using hp
    obtain ⟨hok, hx5⟩ := p19_all hp1
    have hx3 : ∀ k, k < x.length → (x.getD k []).length = 3 := fun k hk => isPow_3 (hok k hk).1
    have hsh : ishl .i64 1 (x.length : Int) = ((2 ^ x.length : Nat) : Int) := ishl_small (by omega)
    have hun : IntKind.u64.wrap (x.length : Int) = (x.length : Int) := uwrap_id (by omega)
    have h64 := two_pow_le (m := x.length) (by omega)
    have hS0 : powS x = outP x (2 ^ x.length) := if_pos hp1
    rw [hS0]
    generalize 2 ^ x.length = N at *
    refine ⟨by decide, ?_⟩
    refine loop_of (fun (za : Nat × Nat) s => match za with | (c, v) => s.sl 1 = .ref 1 1 0 ∧ s.rw 1 = ⟨1, .box 27 [int2 x]⟩ ∧ s.sl 3 = .own 13 v ∧ s.rw 13 = ⟨v, .sli 3 1 false (iL (outP x c))⟩ ∧ s.sl 4 = int c ∧ (c ≤ N)) (fun (c, v) => N - c) ((0, 1)) (by refine ⟨?_, ?_, ?_, ?_, ?_, by omega⟩ <;> (first | (simp (maxSteps := 5000000) -dsimp only [gr, Nat.reduceEqDiff, Nat.reduceLT, Nat.reduceAdd, Nat.reduceMod, Nat.reduceBEq, sid_mod, sid_ne1, sid_ne2, sid_inj, outP]; first | done | rfl | (simp; done)) | assumption | rfl)) ?_
    intro (c, v) sa ⟨h1a, r1a, h3a, r13a, h4a, hIa⟩
    by_cases hs : c < N
    · simp (maxSteps := 5000000) -dsimp only [↓gp, gq, reduceCtorEq, Nat.reduceEqDiff, Nat.reduceLT, Nat.reduceLeDiff, Nat.reduceAdd, Nat.reduceMul, Nat.reduceSub, Nat.reduceBEq, Int.reduceToNat, Int.reduceLE, Int.reduceLT, Int.reduceNeg, Nat.reduceMod, sid_ne1, sid_ne2, sid_inj, sid_mod, gT, TK.isInt, TK.agg, Array.toList, h1a, r1a, h3a, r13a, h4a, hsh, hun]
      refine ⟨fun _ => ?_, fun h => absurd hs h⟩
      refine loop_of (fun (k : Nat) s => s.sl 1 = .ref 1 1 0 ∧ s.rw 1 = ⟨1, .box 27 [int2 x]⟩ ∧ s.sl 3 = .own 13 v ∧ s.rw 13 = ⟨v, .sli 3 1 false (iL (outP x c))⟩ ∧ s.sl 4 = int c ∧ s.sl 5 = .own 23 ((sa.rw 23).ver + 1) ∧ s.rw 23 = ⟨(sa.rw 23).ver + 1, .sli 3 1 false (iL (mostP x c k))⟩ ∧ s.sl 6 = int k ∧ (k ≤ x.length)) (fun k => x.length - k) (0) (by refine ⟨?_, ?_, ?_, ?_, ?_, ?_, ?_, ?_, by omega⟩ <;> (first | (simp (maxSteps := 5000000) -dsimp only [gr, Nat.reduceEqDiff, Nat.reduceLT, Nat.reduceAdd, Nat.reduceMod, Nat.reduceBEq, sid_mod, sid_ne1, sid_ne2, sid_inj, h1a, r1a, h3a, r13a, h4a, mostP]; first | done | rfl | (simp; done)) | assumption | rfl)) ?_
      intro k sb ⟨h1b, r1b, h3b, r13b, h4b, h5b, r23b, h6b, hIb⟩
      by_cases hk : k < x.length
      · have hunk : IntKind.u64.wrap (k : Int) = (k : Int) := uwrap_id (by omega)
        have hbit := bit_test_i (a := c) (s := k) (by omega) (by omega)
        have hml := mostP_len x c k
        simp (maxSteps := 5000000) -dsimp only [↓gp, gq, reduceCtorEq, Nat.reduceEqDiff, Nat.reduceLT, Nat.reduceLeDiff, Nat.reduceAdd, Nat.reduceMul, Nat.reduceSub, Nat.reduceBEq, Int.reduceToNat, Int.reduceLE, Int.reduceLT, Int.reduceNeg, Nat.reduceMod, sid_ne1, sid_ne2, sid_inj, sid_mod, gT, TK.isInt, TK.agg, Array.toList, h1b, r1b, h3b, r13b, h4b, h5b, r23b, h6b]
        refine ⟨fun _ => ?_, fun h => absurd hk h⟩
        refine loop_of (fun (i : Nat) s => s.sl 1 = .ref 1 1 0 ∧ s.rw 1 = ⟨1, .box 27 [int2 x]⟩ ∧ s.sl 3 = .own 13 v ∧ s.rw 13 = ⟨v, .sli 3 1 false (iL (outP x c))⟩ ∧ s.sl 4 = int c ∧ s.sl 5 = .own 23 ((sa.rw 23).ver + 1) ∧ s.rw 23 = ⟨(sa.rw 23).ver + 1, .sli 3 1 false (iL (mxI (mostP x c k) (x.getD k []) i))⟩ ∧ s.sl 6 = int k ∧ s.sl 7 = int i ∧ (i ≤ 3 ∧ (c.testBit k = false → i = 0))) (fun i => 3 - i) (0) (by refine ⟨?_, ?_, ?_, ?_, ?_, ?_, ?_, ?_, ?_, ⟨by omega, fun _ => rfl⟩⟩ <;> (first | (simp (maxSteps := 5000000) -dsimp only [gr, Nat.reduceEqDiff, Nat.reduceLT, Nat.reduceAdd, Nat.reduceMod, Nat.reduceBEq, sid_mod, sid_ne1, sid_ne2, sid_inj, h1b, r1b, h3b, r13b, h4b, h5b, r23b, h6b, mxI_zero hml]; first | done | rfl | (simp; done)) | assumption | rfl)) ?_
        intro i sc ⟨h1c, r1c, h3c, r13c, h4c, h5c, r23c, h6c, h7c, hIc⟩
        obtain ⟨hi, hi0⟩ := hIc
        have hxl := mxI_len (mostP x c k) (x.getD k []) i
        have hgi : i < 3 → (mxI (mostP x c k) (x.getD k []) i).set i (max ((mxI (mostP x c k) (x.getD k []) i).getD i 0) ((x.getD k []).getD i 0)) = mxI (mostP x c k) (x.getD k []) (i + 1) := fun h => by
          rw [mxI_getD _ _ _ h, if_neg (Nat.lt_irrefl _), mxI_set _ _ h]
        simp (maxSteps := 5000000) -dsimp only [↓gp, gq, reduceCtorEq, Nat.reduceEqDiff, Nat.reduceLT, Nat.reduceLeDiff, Nat.reduceAdd, Nat.reduceMul, Nat.reduceSub, Nat.reduceBEq, Int.reduceToNat, Int.reduceLE, Int.reduceLT, Int.reduceNeg, Nat.reduceMod, sid_ne1, sid_ne2, sid_inj, sid_mod, gT, TK.isInt, TK.agg, Array.toList, h1c, r1c, h3c, r13c, h4c, h5c, r23c, h6c, h7c, hunk, hbit]
        refine ⟨fun h3 => ⟨fun hb => ⟨by kernel_rfl, by omega, by omega, hk, hk, by rw [hx3 k hk]; omega, by rw [hx3 k hk]; omega, askK_of (c_spec_l1Max _ _) ?_⟩, fun hb => ?_⟩, fun h3 => ?_⟩
        · simp (maxSteps := 5000000) -dsimp only [↓gp, gq, reduceCtorEq, Nat.reduceEqDiff, Nat.reduceLT, Nat.reduceLeDiff, Nat.reduceAdd, Nat.reduceMul, Nat.reduceSub, Nat.reduceBEq, Int.reduceToNat, Int.reduceLE, Int.reduceLT, Int.reduceNeg, Nat.reduceMod, sid_ne1, sid_ne2, sid_inj, sid_mod, gT, TK.isInt, TK.agg, Array.toList, h1c, r1c, h3c, r13c, h4c, h5c, r23c, h6c, h7c, hunk, hbit]
          have h3 : i < 3 := by omega
          have e := hgi h3
          exact ⟨by omega, by omega, by kernel_rfl, again_of (i + 1) (by refine ⟨?_, ?_, ?_, ?_, ?_, ?_, ?_, ?_, ?_, ⟨by omega, fun h => by rw [h] at hb; cases hb⟩⟩ <;> (first | (simp (maxSteps := 5000000) -dsimp only [gr, Nat.reduceEqDiff, Nat.reduceLT, Nat.reduceAdd, Nat.reduceMod, Nat.reduceBEq, sid_mod, sid_ne1, sid_ne2, sid_inj, h1c, r1c, h3c, r13c, h4c, h5c, r23c, h6c, h7c, e, wrap_nat h3 (by omega)]; first | done | rfl | (simp; done)) | assumption | rfl)) (by first | omega | (simp only; omega) | (dsimp only; omega) | (show _ < _; simp; omega))⟩
        · have h0 := hi0 hb
          subst h0
          have e : mostP x c (k + 1) = mxI (mostP x c k) (x.getD k []) 0 := by rw [mxI_zero hml]; exact if_neg (by rw [hb]; decide)
          exact again_of (k + 1) (by refine ⟨?_, ?_, ?_, ?_, ?_, ?_, ?_, ?_, by omega⟩ <;> (first | (simp (maxSteps := 5000000) -dsimp only [gr, Nat.reduceEqDiff, Nat.reduceLT, Nat.reduceAdd, Nat.reduceMod, Nat.reduceBEq, sid_mod, sid_ne1, sid_ne2, sid_inj, h1b, r1b, h3b, r13b, h4b, h5b, r23b, h6b, h1c, r1c, h3c, r13c, h4c, h5c, r23c, h6c, h7c, e, wrap_nat hk (show x.length ≤ 9223372036854775807 by omega)]; first | done | rfl | (simp; done)) | assumption | rfl)) (by first | omega | (simp only; omega) | (dsimp only; omega) | (show _ < _; simp; omega))
        · have hb : c.testBit k = true := by
            cases hb : c.testBit k with
            | true => rfl
            | false => have := hi0 hb; omega
          have h0 : i = 3 := by omega
          subst h0
          have e : mostP x c (k + 1) = mxI (mostP x c k) (x.getD k []) 3 := if_pos hb
          exact again_of (k + 1) (by refine ⟨?_, ?_, ?_, ?_, ?_, ?_, ?_, ?_, by omega⟩ <;> (first | (simp (maxSteps := 5000000) -dsimp only [gr, Nat.reduceEqDiff, Nat.reduceLT, Nat.reduceAdd, Nat.reduceMod, Nat.reduceBEq, sid_mod, sid_ne1, sid_ne2, sid_inj, h1b, r1b, h3b, r13b, h4b, h5b, r23b, h6b, h1c, r1c, h3c, r13c, h4c, h5c, r23c, h6c, h7c, e, wrap_nat hk (show x.length ≤ 9223372036854775807 by omega)]; first | done | rfl | (simp; done)) | assumption | rfl)) (by first | omega | (simp only; omega) | (dsimp only; omega) | (show _ < _; simp; omega))
      · have hkl : k = x.length := by omega
        subst hkl
        have hml := mostP_len x c x.length
        have hol := outP_len x c
        have hbd := mostP_bd hp1 c x.length (Nat.le_refl _)
        have b0 := hbd 0 (by omega)
        have b1 := hbd 1 (by omega)
        have b2 := hbd 2 (by omega)
        have hw1 : IntKind.i64.wrap ((mostP x c x.length).getD 0 0 + (mostP x c x.length).getD 1 0) = (mostP x c x.length).getD 0 0 + (mostP x c x.length).getD 1 0 := wrap_id (by omega) (by omega)
        have hw2 : IntKind.i64.wrap ((mostP x c x.length).getD 0 0 + (mostP x c x.length).getD 1 0 + (mostP x c x.length).getD 2 0) = ((degP (mostP x c x.length) : Nat) : Int) := by
          rw [wrap_id (by omega) (by omega)]; unfold degP; omega
        have hd7 : degP (mostP x c x.length) < 7 := by unfold degP; omega
        simp (maxSteps := 5000000) -dsimp only [↓gp, gq, reduceCtorEq, Nat.reduceEqDiff, Nat.reduceLT, Nat.reduceLeDiff, Nat.reduceAdd, Nat.reduceMul, Nat.reduceSub, Nat.reduceBEq, Int.reduceToNat, Int.reduceLE, Int.reduceLT, Int.reduceNeg, Nat.reduceMod, sid_ne1, sid_ne2, sid_inj, sid_mod, gT, TK.isInt, TK.agg, Array.toList, h1b, r1b, h3b, r13b, h4b, h5b, r23b, h6b, hw1, hw2]
        refine ⟨fun h => absurd h (Nat.lt_irrefl _), fun _ => ⟨by kernel_rfl, by omega, by omega, by omega, by omega, by omega, by omega, by kernel_rfl, by omega, by omega, askK_of (c_spec_l2Size c (by omega)) ?_⟩⟩
        simp (maxSteps := 5000000) -dsimp only [↓gp, gq, reduceCtorEq, Nat.reduceEqDiff, Nat.reduceLT, Nat.reduceLeDiff, Nat.reduceAdd, Nat.reduceMul, Nat.reduceSub, Nat.reduceBEq, Int.reduceToNat, Int.reduceLE, Int.reduceLT, Int.reduceNeg, Nat.reduceMod, sid_ne1, sid_ne2, sid_inj, sid_mod, gT, TK.isInt, TK.agg, Array.toList, h1b, r1b, h3b, r13b, h4b, h5b, r23b, h6b, hw1, hw2]
        have hob := outP_bd x c (degP (mostP x c x.length))
        have ht : ((popN c : Nat) : Int).tmod 2 = ((popN c % 2 : Nat) : Int) := by rw [Int.tmod_eq_emod_of_nonneg (by omega)]; omega
        have e : (outP x c).set (degP (mostP x c x.length)) (IntKind.i64.wrap (IntKind.i64.wrap ((outP x c).getD (degP (mostP x c x.length)) 0 + 1) - IntKind.i64.wrap (2 * ((popN c : Nat) : Int).tmod 2))) = outP x (c + 1) := by
          rw [ht, wrap_id (n := (outP x c).getD (degP (mostP x c x.length)) 0 + 1) (by omega) (by omega), wrap_id (n := 2 * _) (by omega) (by omega), wrap_id (by omega) (by omega)]
          have : (outP x c).getD (degP (mostP x c x.length)) 0 + 1 - 2 * ((popN c % 2 : Nat) : Int) = (outP x c).getD (degP (mostP x c x.length)) 0 + sgnN c := by unfold sgnN; omega
          rw [this]; rfl
        exact ⟨by decide, by omega, by omega, by kernel_rfl, again_of ((c + 1, v)) (by refine ⟨?_, ?_, ?_, ?_, ?_, by dsimp only; omega⟩ <;> (first | (simp (maxSteps := 5000000) -dsimp only [gr, Nat.reduceEqDiff, Nat.reduceLT, Nat.reduceAdd, Nat.reduceMod, Nat.reduceBEq, sid_mod, sid_ne1, sid_ne2, sid_inj, h1a, r1a, h3a, r13a, h4a, h1b, r1b, h3b, r13b, h4b, h5b, r23b, h6b, e, wrap_nat hs (by omega)]; first | done | rfl | (simp; done)) | assumption | rfl)) (by first | omega | (simp only; omega) | (dsimp only; omega) | (show _ < _; simp; omega))⟩
    · have hc2 : c = N := by omega
      subst hc2
      simp (maxSteps := 5000000) -dsimp only [↓gp, gq, reduceCtorEq, Nat.reduceEqDiff, Nat.reduceLT, Nat.reduceLeDiff, Nat.reduceAdd, Nat.reduceMul, Nat.reduceSub, Nat.reduceBEq, Int.reduceToNat, Int.reduceLE, Int.reduceLT, Int.reduceNeg, Nat.reduceMod, sid_ne1, sid_ne2, sid_inj, sid_mod, gT, TK.isInt, TK.agg, Array.toList, h1a, r1a, h3a, r13a, h4a, hsh, hun]
      exact fun h => absurd h (Nat.lt_irrefl _)
theorem powS_len (x : List (List Int)) : (powS x).length ≤ 1048576 := by
  unfold powS; split
  · rw [outP_len]; decide
  · decide
theorem c_impl_PowerSums (x : List (List Int)) : AC Try.prog 19 [.ag [int2 x]] (.fr 3 1 (iL (powS x))) := by
  refine AC.go (rs := [.tmp 2]) T_ok mixed Try.func19 rfl rfl rfl (by kernel_rfl) fun hl => ?_
  simp only [lens_cons, lens_nil, and_true, lens2, List.mem_singleton, forall_eq, lens1_iLL] at hl
  simp (maxSteps := 5000000) -dsimp only [↓gp, gq, reduceCtorEq, Nat.reduceEqDiff, Nat.reduceLT, Nat.reduceLeDiff, Nat.reduceAdd, Nat.reduceMul, Nat.reduceSub, Nat.reduceBEq, Int.reduceToNat, Int.reduceLE, Int.reduceLT, Int.reduceNeg, Nat.reduceMod, sid_ne1, sid_ne2, sid_inj, sid_mod, gT, TK.isInt, TK.agg, Array.toList]
  refine askK_of (c_impl_ArePowers x) ?_
  rw [← p19_21]
  simp (maxSteps := 5000000) -dsimp only [↓gp, gq, reduceCtorEq, Nat.reduceEqDiff, Nat.reduceLT, Nat.reduceLeDiff, Nat.reduceAdd, Nat.reduceMul, Nat.reduceSub, Nat.reduceBEq, Int.reduceToNat, Int.reduceLE, Int.reduceLT, Int.reduceNeg, Nat.reduceMod, sid_ne1, sid_ne2, sid_inj, sid_mod, gT, TK.isInt, TK.agg, Array.toList]
  refine ⟨fun hp => ?_, fun hp => ?_⟩
  · rw [powS, if_neg (by intro h; rw [h] at hp; cases hp)]; rfl
  · have hp1 : p19 x = true := by simpa using hp
    obtain ⟨hok, hx5⟩ := p19_all hp1
    have hx3 : ∀ k, k < x.length → (x.getD k []).length = 3 := fun k hk => isPow_3 (hok k hk).1
    have hsh : ishl .i64 1 (x.length : Int) = ((2 ^ x.length : Nat) : Int) := ishl_small (by omega)
    have hun : IntKind.u64.wrap (x.length : Int) = (x.length : Int) := uwrap_id (by omega)
    have h64 := two_pow_le (m := x.length) (by omega)
    have hS0 : powS x = outP x (2 ^ x.length) := if_pos hp1
    have hsg := fun s (h : s < 2 ^ x.length) => sgnP_all x.length hx5 s h
    rw [hS0]
    generalize 2 ^ x.length = N at *
    refine ⟨by decide, ?_⟩
    refine loop_of (fun (za : Nat × Nat) s => match za with | (c, v) => s.sl 1 = .ref 1 1 0 ∧ s.rw 1 = ⟨1, .box 27 [int2 x]⟩ ∧ s.sl 3 = .own 14 v ∧ s.rw 14 = ⟨v, .sli 3 1 false (iL (outP x c))⟩ ∧ s.sl 4 = int c ∧ (c ≤ N)) (fun (c, v) => N - c) ((0, 1)) (by refine ⟨?_, ?_, ?_, ?_, ?_, by omega⟩ <;> (first | (simp (maxSteps := 5000000) -dsimp only [gr, Nat.reduceEqDiff, Nat.reduceLT, Nat.reduceAdd, Nat.reduceMod, Nat.reduceBEq, sid_mod, sid_ne1, sid_ne2, sid_inj, outP]; first | done | rfl | (simp; done)) | assumption | rfl)) ?_
    intro (c, v) sa ⟨h1a, r1a, h3a, r14a, h4a, hIa⟩
    by_cases hs : c < N
    · simp (maxSteps := 5000000) -dsimp only [↓gp, gq, reduceCtorEq, Nat.reduceEqDiff, Nat.reduceLT, Nat.reduceLeDiff, Nat.reduceAdd, Nat.reduceMul, Nat.reduceSub, Nat.reduceBEq, Int.reduceToNat, Int.reduceLE, Int.reduceLT, Int.reduceNeg, Nat.reduceMod, sid_ne1, sid_ne2, sid_inj, sid_mod, gT, TK.isInt, TK.agg, Array.toList, h1a, r1a, h3a, r14a, h4a, hsh, hun]
      refine ⟨fun _ => ?_, fun h => absurd hs h⟩
      refine loop_of (fun (k : Nat) s => s.sl 1 = .ref 1 1 0 ∧ s.rw 1 = ⟨1, .box 27 [int2 x]⟩ ∧ s.sl 3 = .own 14 v ∧ s.rw 14 = ⟨v, .sli 3 1 false (iL (outP x c))⟩ ∧ s.sl 4 = int c ∧ s.sl 5 = .ref 5 ((sa.rw 5).ver + 1) 0 ∧ s.rw 5 = ⟨(sa.rw 5).ver + 1, .box 82 (iL (mostP x c k))⟩ ∧ s.sl 6 = int (sgnP c k) ∧ s.sl 25 = int2 x ∧ s.sl 26 = int x.length ∧ s.sl 27 = int k ∧ (k ≤ x.length)) (fun k => x.length - k) (0) (by refine ⟨?_, ?_, ?_, ?_, ?_, ?_, ?_, ?_, ?_, ?_, ?_, by omega⟩ <;> (first | (simp (maxSteps := 5000000) -dsimp only [gr, Nat.reduceEqDiff, Nat.reduceLT, Nat.reduceAdd, Nat.reduceMod, Nat.reduceBEq, sid_mod, sid_ne1, sid_ne2, sid_inj, h1a, r1a, h3a, r14a, h4a, mostP, sgnP]; first | done | rfl | (simp; done)) | assumption | rfl)) ?_
      intro k sb ⟨h1b, r1b, h3b, r14b, h4b, h5b, r5b, h6b, h25b, h26b, h27b, hIb⟩
      by_cases hk : k < x.length
      · have hunk : IntKind.u64.wrap (k : Int) = (k : Int) := uwrap_id (by omega)
        have hbit := bit_zero c (by omega) k (by omega)
        have hml := mostP_len x c k
        have hsb := sgnP_bd c k
        have hng : IntKind.i64.wrap (0 - sgnP c k) = -sgnP c k := by rw [wrap_id (by omega) (by omega)]; omega
        simp (maxSteps := 5000000) -dsimp only [↓gp, gq, reduceCtorEq, Nat.reduceEqDiff, Nat.reduceLT, Nat.reduceLeDiff, Nat.reduceAdd, Nat.reduceMul, Nat.reduceSub, Nat.reduceBEq, Int.reduceToNat, Int.reduceLE, Int.reduceLT, Int.reduceNeg, Nat.reduceMod, sid_ne1, sid_ne2, sid_inj, sid_mod, gT, TK.isInt, TK.agg, Array.toList, h1b, r1b, h3b, r14b, h4b, h5b, r5b, h6b, h25b, h26b, h27b, hunk, hbit, hng]
        refine ⟨fun _ => ⟨hk, hk, fun hb => ?_, fun hb => ?_⟩, fun h => absurd hk h⟩
        · have hb : c.testBit k = false := by simpa using hb
          have e1 : mostP x c (k + 1) = mostP x c k := if_neg (by rw [hb]; decide)
          have e2 : sgnP c (k + 1) = sgnP c k := if_neg (by rw [hb]; decide)
          exact again_of (k + 1) (by refine ⟨?_, ?_, ?_, ?_, ?_, ?_, ?_, ?_, ?_, ?_, ?_, by omega⟩ <;> (first | (simp (maxSteps := 5000000) -dsimp only [gr, Nat.reduceEqDiff, Nat.reduceLT, Nat.reduceAdd, Nat.reduceMod, Nat.reduceBEq, sid_mod, sid_ne1, sid_ne2, sid_inj, h1b, r1b, h3b, r14b, h4b, h5b, r5b, h6b, h25b, h26b, h27b, e1, e2, wrap_nat hk (show x.length ≤ 9223372036854775807 by omega)]; first | done | rfl | (simp; done)) | assumption | rfl)) (by first | omega | (simp only; omega) | (dsimp only; omega) | (show _ < _; simp; omega))
        · have hb : c.testBit k = true := by simpa using hb
          have hrl := hx3 k hk
          refine loop_of (fun (i : Nat) s => s.sl 1 = .ref 1 1 0 ∧ s.rw 1 = ⟨1, .box 27 [int2 x]⟩ ∧ s.sl 3 = .own 14 v ∧ s.rw 14 = ⟨v, .sli 3 1 false (iL (outP x c))⟩ ∧ s.sl 4 = int c ∧ s.sl 5 = .ref 5 ((sa.rw 5).ver + 1) 0 ∧ s.rw 5 = ⟨(sa.rw 5).ver + 1, .box 82 (iL (mxI (mostP x c k) (x.getD k []) i))⟩ ∧ s.sl 6 = int (-sgnP c k) ∧ s.sl 25 = int2 x ∧ s.sl 26 = int x.length ∧ s.sl 27 = int k ∧ s.sl 40 = ints (x.getD k []) ∧ s.sl 41 = int 3 ∧ s.sl 42 = int i ∧ (i ≤ 3)) (fun i => 3 - i) (0) (by refine ⟨?_, ?_, ?_, ?_, ?_, ?_, ?_, ?_, ?_, ?_, ?_, ?_, ?_, ?_, by omega⟩ <;> (first | (simp (maxSteps := 5000000) -dsimp only [gr, Nat.reduceEqDiff, Nat.reduceLT, Nat.reduceAdd, Nat.reduceMod, Nat.reduceBEq, sid_mod, sid_ne1, sid_ne2, sid_inj, h1b, r1b, h3b, r14b, h4b, h5b, r5b, h6b, h25b, h26b, h27b, mxI_zero hml, hrl]; first | done | rfl | (simp; done)) | assumption | rfl)) ?_
          intro i sc ⟨h1c, r1c, h3c, r14c, h4c, h5c, r5c, h6c, h25c, h26c, h27c, h40c, h41c, h42c, hIc⟩
          have hxl := mxI_len (mostP x c k) (x.getD k []) i
          have hgi : i < 3 → (mxI (mostP x c k) (x.getD k []) i).set i (max ((mxI (mostP x c k) (x.getD k []) i).getD i 0) ((x.getD k []).getD i 0)) = mxI (mostP x c k) (x.getD k []) (i + 1) := fun h => by
            rw [mxI_getD _ _ _ h, if_neg (Nat.lt_irrefl _), mxI_set _ _ h]
          simp (maxSteps := 5000000) -dsimp only [↓gp, gq, reduceCtorEq, Nat.reduceEqDiff, Nat.reduceLT, Nat.reduceLeDiff, Nat.reduceAdd, Nat.reduceMul, Nat.reduceSub, Nat.reduceBEq, Int.reduceToNat, Int.reduceLE, Int.reduceLT, Int.reduceNeg, Nat.reduceMod, sid_ne1, sid_ne2, sid_inj, sid_mod, gT, TK.isInt, TK.agg, Array.toList, h1c, r1c, h3c, r14c, h4c, h5c, r5c, h6c, h25c, h26c, h27c, h40c, h41c, h42c]
          refine ⟨fun h3 => ?_, fun h3 => ?_⟩
          · have h3 : i < 3 := by omega
            have em : (if (x.getD k []).getD i 0 > (mxI (mostP x c k) (x.getD k []) i).getD i 0 then (x.getD k []).getD i 0 else (mxI (mostP x c k) (x.getD k []) i).getD i 0) = max ((mxI (mostP x c k) (x.getD k []) i).getD i 0) ((x.getD k []).getD i 0) := by split <;> omega
            have e := hgi h3
            rw [← em] at e
            exact ⟨by omega, by omega, h3, by omega, h3, by omega, again_of (i + 1) (by refine ⟨?_, ?_, ?_, ?_, ?_, ?_, ?_, ?_, ?_, ?_, ?_, ?_, ?_, ?_, by omega⟩ <;> (first | (simp (maxSteps := 5000000) -dsimp only [gr, Nat.reduceEqDiff, Nat.reduceLT, Nat.reduceAdd, Nat.reduceMod, Nat.reduceBEq, sid_mod, sid_ne1, sid_ne2, sid_inj, h1c, r1c, h3c, r14c, h4c, h5c, r5c, h6c, h25c, h26c, h27c, h40c, h41c, h42c, e, wrap_nat h3 (by omega)]; first | done | rfl | (simp; done)) | assumption | rfl)) (by first | omega | (simp only; omega) | (dsimp only; omega) | (show _ < _; simp; omega))⟩
          · have h0 : i = 3 := by omega
            subst h0
            have e1 : mostP x c (k + 1) = mxI (mostP x c k) (x.getD k []) 3 := if_pos hb
            have e2 : sgnP c (k + 1) = -sgnP c k := if_pos hb
            exact again_of (k + 1) (by refine ⟨?_, ?_, ?_, ?_, ?_, ?_, ?_, ?_, ?_, ?_, ?_, by omega⟩ <;> (first | (simp (maxSteps := 5000000) -dsimp only [gr, Nat.reduceEqDiff, Nat.reduceLT, Nat.reduceAdd, Nat.reduceMod, Nat.reduceBEq, sid_mod, sid_ne1, sid_ne2, sid_inj, h1b, r1b, h3b, r14b, h4b, h5b, r5b, h6b, h25b, h26b, h27b, h1c, r1c, h3c, r14c, h4c, h5c, r5c, h6c, h25c, h26c, h27c, h40c, h41c, h42c, e1, e2, wrap_nat hk (show x.length ≤ 9223372036854775807 by omega)]; first | done | rfl | (simp; done)) | assumption | rfl)) (by first | omega | (simp only; omega) | (dsimp only; omega) | (show _ < _; simp; omega))
      · have hkl : k = x.length := by omega
        subst hkl
        have hml := mostP_len x c x.length
        have hol := outP_len x c
        have hbd := mostP_bd hp1 c x.length (Nat.le_refl _)
        have b0 := hbd 0 (by omega)
        have b1 := hbd 1 (by omega)
        have b2 := hbd 2 (by omega)
        have hw1 : IntKind.i64.wrap ((mostP x c x.length).getD 0 0 + (mostP x c x.length).getD 1 0) = (mostP x c x.length).getD 0 0 + (mostP x c x.length).getD 1 0 := wrap_id (by omega) (by omega)
        have hw2 : IntKind.i64.wrap ((mostP x c x.length).getD 0 0 + (mostP x c x.length).getD 1 0 + (mostP x c x.length).getD 2 0) = ((degP (mostP x c x.length) : Nat) : Int) := by
          rw [wrap_id (by omega) (by omega)]; unfold degP; omega
        have hd7 : degP (mostP x c x.length) < 7 := by unfold degP; omega
        have hob := outP_bd x c (degP (mostP x c x.length))
        have hsb := sgnN_bd c
        have e : (outP x c).set (degP (mostP x c x.length)) (IntKind.i64.wrap ((outP x c).getD (degP (mostP x c x.length)) 0 + sgnP c x.length)) = outP x (c + 1) := by
          rw [hsg c hs, wrap_id (by omega) (by omega)]; rfl
        simp (maxSteps := 5000000) -dsimp only [↓gp, gq, reduceCtorEq, Nat.reduceEqDiff, Nat.reduceLT, Nat.reduceLeDiff, Nat.reduceAdd, Nat.reduceMul, Nat.reduceSub, Nat.reduceBEq, Int.reduceToNat, Int.reduceLE, Int.reduceLT, Int.reduceNeg, Nat.reduceMod, sid_ne1, sid_ne2, sid_inj, sid_mod, gT, TK.isInt, TK.agg, Array.toList, h1b, r1b, h3b, r14b, h4b, h5b, r5b, h6b, h25b, h26b, h27b, hw1, hw2, Nat.lt_irrefl, decide_false]
        exact ⟨by decide, by omega, by decide, by omega, by decide, by omega, by omega, by omega, by omega, by omega, again_of ((c + 1, v)) (by refine ⟨?_, ?_, ?_, ?_, ?_, by dsimp only; omega⟩ <;> (first | (simp (maxSteps := 5000000) -dsimp only [gr, Nat.reduceEqDiff, Nat.reduceLT, Nat.reduceAdd, Nat.reduceMod, Nat.reduceBEq, sid_mod, sid_ne1, sid_ne2, sid_inj, h1a, r1a, h3a, r14a, h4a, h1b, r1b, h3b, r14b, h4b, h5b, r5b, h6b, h25b, h26b, h27b, e, wrap_nat hs (by omega)]; first | done | rfl | (simp; done)) | assumption | rfl)) (by first | omega | (simp only; omega) | (dsimp only; omega) | (show _ < _; simp; omega))⟩
    · have hc2 : c = N := by omega
      subst hc2
      simp (maxSteps := 5000000) -dsimp only [↓gp, gq, reduceCtorEq, Nat.reduceEqDiff, Nat.reduceLT, Nat.reduceLeDiff, Nat.reduceAdd, Nat.reduceMul, Nat.reduceSub, Nat.reduceBEq, Int.reduceToNat, Int.reduceLE, Int.reduceLT, Int.reduceNeg, Nat.reduceMod, sid_ne1, sid_ne2, sid_inj, sid_mod, gT, TK.isInt, TK.agg, Array.toList, h1a, r1a, h3a, r14a, h4a, hsh, hun]
      exact fun h => absurd h (Nat.lt_irrefl _)
end Go.Proofs.Ytnfpeinbdfmlnaa

namespace Go.Proofs.Ytnfpeinbdfmlnaa
open Go.Abs
set_option linter.unusedSimpArgs false
set_option linter.unusedVariables false
/-- A graph: edges are sets of two points, in order. -/
def edgeP (n : Int) (xs : List Int) (k : Nat) : Prop := inSet n (xs.getD k 0) = true ∧ popN (xs.getD k 0).toNat = 2 ∧ (0 < k → xs.getD (k - 1) 0 < xs.getD k 0)
def graphP (n : Int) (xs : List Int) : Prop := 1 ≤ n ∧ n ≤ 6 ∧ ∀ k, k < xs.length → edgeP n xs k
open Classical in
noncomputable def isGraph (n : Int) (xs : List Int) : Bool := decide (graphP n xs)
open Classical in
theorem isGraph_no {n : Int} {xs : List Int} (h : ¬ graphP n xs) : isGraph n xs = false := decide_eq_false h
open Classical in
theorem isGraph_yes {n : Int} {xs : List Int} (h : graphP n xs) : isGraph n xs = true := decide_eq_true h
theorem c_spec_IsGraph (n : Int) (xs : List Int) : AC Try.prog 140 [.ag [int n, ints xs]] (.im (bool (isGraph n xs))) := by
  refine AC.go (rs := [.tmp 2]) T_ok mixed Try.func140 rfl rfl rfl (by kernel_rfl) fun hl => ?_
  simp only [lens_cons, lens_nil, and_true, lens2_ag2, lens1_v, lens1_iL, true_and] at hl
  simp (maxSteps := 5000000) -dsimp only [↓gp, gq, reduceCtorEq, Nat.reduceEqDiff, Nat.reduceLT, Nat.reduceLeDiff, Nat.reduceAdd, Nat.reduceMul, Nat.reduceSub, Nat.reduceBEq, Int.reduceToNat, Int.reduceLE, Int.reduceLT, Int.reduceNeg, Nat.reduceMod, sid_ne1, sid_ne2, sid_inj, sid_mod, gT, TK.isInt, TK.agg, Array.toList]
  refine loop_of (fun (k : Nat) s => s.sl 1 = .ref 1 1 0 ∧ s.rw 1 = ⟨1, .box 68 [int n, ints xs]⟩ ∧ s.sl 3 = int k ∧ k ≤ xs.length ∧ ∀ i, i < k → edgeP n xs i) (fun k => xs.length - k) 0 ⟨by simp (maxSteps := 5000000) -dsimp only [gr, Nat.reduceEqDiff, Nat.reduceLT, Nat.reduceAdd, Nat.reduceMod, Nat.reduceBEq, sid_mod, sid_ne1, sid_ne2, sid_inj], by simp (maxSteps := 5000000) -dsimp only [gr, Nat.reduceEqDiff, Nat.reduceLT, Nat.reduceAdd, Nat.reduceMod, Nat.reduceBEq, sid_mod, sid_ne1, sid_ne2, sid_inj], by simp (maxSteps := 5000000) -dsimp only [gr, Nat.reduceEqDiff, Nat.reduceLT, Nat.reduceAdd, Nat.reduceMod, Nat.reduceBEq, sid_mod, sid_ne1, sid_ne2, sid_inj]; rfl, by simp, by simp⟩ ?_
  intro k s1 ⟨h1, r1, h3, hk, hall⟩
  have hw : IntKind.i64.wrap ((k : Int) - 1) = (k : Int) - 1 := wrap_id (by omega) (by omega)
  simp (maxSteps := 5000000) -dsimp only [↓gp, gq, reduceCtorEq, Nat.reduceEqDiff, Nat.reduceLT, Nat.reduceLeDiff, Nat.reduceAdd, Nat.reduceMul, Nat.reduceSub, Nat.reduceBEq, Int.reduceToNat, Int.reduceLE, Int.reduceLT, Int.reduceNeg, Nat.reduceMod, sid_ne1, sid_ne2, sid_inj, sid_mod, gT, TK.isInt, TK.agg, Array.toList, h1, r1, h3, hw, toNat_pred]
  refine ⟨fun h => ⟨by kernel_rfl, h, h, askK_of (c_spec_IsSet _ _) ?_⟩, fun h => askK_of (c_spec_l1In _ _ _) ?_⟩
  · simp (maxSteps := 5000000) -dsimp only [↓gp, gq, reduceCtorEq, Nat.reduceEqDiff, Nat.reduceLT, Nat.reduceLeDiff, Nat.reduceAdd, Nat.reduceMul, Nat.reduceSub, Nat.reduceBEq, Int.reduceToNat, Int.reduceLE, Int.reduceLT, Int.reduceNeg, Nat.reduceMod, sid_ne1, sid_ne2, sid_inj, sid_mod, gT, TK.isInt, TK.agg, Array.toList, h1, r1, h3, hw, toNat_pred]
    refine ⟨fun hs => ⟨h, h, ?_⟩, fun hs => ?_⟩
    · have hs : inSet n (xs.getD k 0) = true := by rwa [Bool.not_eq_false'] at hs
      have hb := inSet_lt hs
      refine askK_of (c_spec_l2Sizei hb.1 (by omega)) ?_
      simp (maxSteps := 5000000) -dsimp only [↓gp, gq, reduceCtorEq, Nat.reduceEqDiff, Nat.reduceLT, Nat.reduceLeDiff, Nat.reduceAdd, Nat.reduceMul, Nat.reduceSub, Nat.reduceBEq, Int.reduceToNat, Int.reduceLE, Int.reduceLT, Int.reduceNeg, Nat.reduceMod, sid_ne1, sid_ne2, sid_inj, sid_mod, gT, TK.isInt, TK.agg, Array.toList, h1, r1, h3, hw, toNat_pred]
      refine ⟨fun hq => ?_, fun hq => ?_⟩
      · have hq2 : popN (xs.getD k 0).toNat = 2 := by
          have := hq
          simp only [bne_eq_false_iff_eq] at this
          omega
        refine ⟨fun h0 => ⟨h, h, by omega, by omega, by omega, fun hle => ?_, fun hle => ?_⟩, fun h0 => ?_⟩
        · exact isGraph_no fun hg => by have := (hg.2.2 k h).2.2 (by omega); omega
        · refine again_of (k + 1) ⟨by simp (maxSteps := 5000000) -dsimp only [gr, Nat.reduceEqDiff, Nat.reduceLT, Nat.reduceAdd, Nat.reduceMod, Nat.reduceBEq, sid_mod, sid_ne1, sid_ne2, sid_inj, h1], by simp (maxSteps := 5000000) -dsimp only [gr, Nat.reduceEqDiff, Nat.reduceLT, Nat.reduceAdd, Nat.reduceMod, Nat.reduceBEq, sid_mod, sid_ne1, sid_ne2, sid_inj, r1], by simp (maxSteps := 5000000) -dsimp only [gr, Nat.reduceEqDiff, Nat.reduceLT, Nat.reduceAdd, Nat.reduceMod, Nat.reduceBEq, sid_mod, sid_ne1, sid_ne2, sid_inj]; rw [wrap_nat h hl], h, fun j hj => ?_⟩ (by omega)
          rcases Nat.lt_succ_iff_lt_or_eq.1 hj with hj | rfl
          · exact hall j hj
          · exact ⟨hs, hq2, fun _ => by omega⟩
        · refine again_of (k + 1) ⟨by simp (maxSteps := 5000000) -dsimp only [gr, Nat.reduceEqDiff, Nat.reduceLT, Nat.reduceAdd, Nat.reduceMod, Nat.reduceBEq, sid_mod, sid_ne1, sid_ne2, sid_inj, h1], by simp (maxSteps := 5000000) -dsimp only [gr, Nat.reduceEqDiff, Nat.reduceLT, Nat.reduceAdd, Nat.reduceMod, Nat.reduceBEq, sid_mod, sid_ne1, sid_ne2, sid_inj, r1], by simp (maxSteps := 5000000) -dsimp only [gr, Nat.reduceEqDiff, Nat.reduceLT, Nat.reduceAdd, Nat.reduceMod, Nat.reduceBEq, sid_mod, sid_ne1, sid_ne2, sid_inj]; rw [wrap_nat h hl], h, fun j hj => ?_⟩ (by omega)
          rcases Nat.lt_succ_iff_lt_or_eq.1 hj with hj | rfl
          · exact hall j hj
          · exact ⟨hs, hq2, fun _ => by omega⟩
      · refine isGraph_no fun hg => ?_
        have := (hg.2.2 k h).2.1
        rw [this] at hq
        simp at hq
    · have hs : inSet n (xs.getD k 0) = false := by rwa [Bool.not_eq_true'] at hs
      exact isGraph_no fun hg => by have := (hg.2.2 k h).1; rw [hs] at this; cases this
  · simp (maxSteps := 5000000) -dsimp only [↓gp, gq, reduceCtorEq, Nat.reduceEqDiff, Nat.reduceLT, Nat.reduceLeDiff, Nat.reduceAdd, Nat.reduceMul, Nat.reduceSub, Nat.reduceBEq, Int.reduceToNat, Int.reduceLE, Int.reduceLT, Int.reduceNeg, Nat.reduceMod, sid_ne1, sid_ne2, sid_inj, sid_mod, gT, TK.isInt, TK.agg, Array.toList, h1, r1, h3, hw, toNat_pred]
    by_cases hn : 1 ≤ n ∧ n ≤ 6
    · rw [isGraph_yes ⟨hn.1, hn.2, fun k hk => hall k (by omega)⟩]
      simp [hn.1, hn.2]
    · rw [isGraph_no fun hg => hn ⟨hg.1, hg.2.1⟩]
      symm
      rw [Bool.and_eq_false_iff, decide_eq_false_iff_not, decide_eq_false_iff_not]
      omega
theorem c_impl_IsGraph (n : Int) (xs : List Int) : AC Try.prog 143 [.ag [int n, ints xs]] (.im (bool (isGraph n xs))) := by
  refine AC.go (rs := [.tmp 2]) T_ok mixed Try.func143 rfl rfl rfl (by kernel_rfl) fun hl => ?_
  simp only [lens_cons, lens_nil, and_true, lens2_ag2, lens1_v, lens1_iL, true_and] at hl
  simp (maxSteps := 5000000) -dsimp only [↓gp, gq, reduceCtorEq, Nat.reduceEqDiff, Nat.reduceLT, Nat.reduceLeDiff, Nat.reduceAdd, Nat.reduceMul, Nat.reduceSub, Nat.reduceBEq, Int.reduceToNat, Int.reduceLE, Int.reduceLT, Int.reduceNeg, Nat.reduceMod, sid_ne1, sid_ne2, sid_inj, sid_mod, gT, TK.isInt, TK.agg, Array.toList]
  refine ⟨fun hn => ⟨fun h6 => isGraph_no fun hg => by have := hg.2.1; omega, fun h6 => ?_⟩, fun hn => isGraph_no fun hg => by have := hg.1; omega⟩
  refine loop_of (fun (k : Nat) s => s.sl 1 = .ref 1 1 0 ∧ s.rw 1 = ⟨1, .box 68 [int n, ints xs]⟩ ∧ s.sl 14 = ints xs ∧ s.sl 15 = int xs.length ∧ s.sl 16 = int k ∧ k ≤ xs.length ∧ ∀ i, i < k → edgeP n xs i) (fun k => xs.length - k) 0 ⟨by simp (maxSteps := 5000000) -dsimp only [gr, Nat.reduceEqDiff, Nat.reduceLT, Nat.reduceAdd, Nat.reduceMod, Nat.reduceBEq, sid_mod, sid_ne1, sid_ne2, sid_inj], by simp (maxSteps := 5000000) -dsimp only [gr, Nat.reduceEqDiff, Nat.reduceLT, Nat.reduceAdd, Nat.reduceMod, Nat.reduceBEq, sid_mod, sid_ne1, sid_ne2, sid_inj], by simp (maxSteps := 5000000) -dsimp only [gr, Nat.reduceEqDiff, Nat.reduceLT, Nat.reduceAdd, Nat.reduceMod, Nat.reduceBEq, sid_mod, sid_ne1, sid_ne2, sid_inj], by simp (maxSteps := 5000000) -dsimp only [gr, Nat.reduceEqDiff, Nat.reduceLT, Nat.reduceAdd, Nat.reduceMod, Nat.reduceBEq, sid_mod, sid_ne1, sid_ne2, sid_inj], by simp (maxSteps := 5000000) -dsimp only [gr, Nat.reduceEqDiff, Nat.reduceLT, Nat.reduceAdd, Nat.reduceMod, Nat.reduceBEq, sid_mod, sid_ne1, sid_ne2, sid_inj]; rfl, by simp, by simp⟩ ?_
  intro k s1 ⟨h1, r1, h14, h15, h16, hk, hall⟩
  have hw : IntKind.i64.wrap ((k : Int) - 1) = (k : Int) - 1 := wrap_id (by omega) (by omega)
  simp (maxSteps := 5000000) -dsimp only [↓gp, gq, reduceCtorEq, Nat.reduceEqDiff, Nat.reduceLT, Nat.reduceLeDiff, Nat.reduceAdd, Nat.reduceMul, Nat.reduceSub, Nat.reduceBEq, Int.reduceToNat, Int.reduceLE, Int.reduceLT, Int.reduceNeg, Nat.reduceMod, sid_ne1, sid_ne2, sid_inj, sid_mod, gT, TK.isInt, TK.agg, Array.toList, h1, r1, h14, h15, h16, hw, toNat_pred]
  refine ⟨fun h => ⟨h, h, askK_of (c_impl_IsSet _ _) ?_⟩, fun h => isGraph_yes ⟨by omega, by omega, fun j hj => hall j (by omega)⟩⟩
  simp (maxSteps := 5000000) -dsimp only [↓gp, gq, reduceCtorEq, Nat.reduceEqDiff, Nat.reduceLT, Nat.reduceLeDiff, Nat.reduceAdd, Nat.reduceMul, Nat.reduceSub, Nat.reduceBEq, Int.reduceToNat, Int.reduceLE, Int.reduceLT, Int.reduceNeg, Nat.reduceMod, sid_ne1, sid_ne2, sid_inj, sid_mod, gT, TK.isInt, TK.agg, Array.toList, h1, r1, h14, h15, h16, hw, toNat_pred]
  refine ⟨fun hs => askK_of (c_impl_SizeOf _) ?_, fun hs => ?_⟩
  · have hs : inSet n (xs.getD k 0) = true := by rwa [Bool.not_eq_false'] at hs
    have hb := inSet_lt hs
    simp (maxSteps := 5000000) -dsimp only [↓gp, gq, reduceCtorEq, Nat.reduceEqDiff, Nat.reduceLT, Nat.reduceLeDiff, Nat.reduceAdd, Nat.reduceMul, Nat.reduceSub, Nat.reduceBEq, Int.reduceToNat, Int.reduceLE, Int.reduceLT, Int.reduceNeg, Nat.reduceMod, sid_ne1, sid_ne2, sid_inj, sid_mod, gT, TK.isInt, TK.agg, Array.toList, h1, r1, h14, h15, h16, hw, toNat_pred]
    have hz : szOf (xs.getD k 0) = (popN (xs.getD k 0).toNat : Nat) := by rw [szOf, if_pos hb]
    rw [hz]
    refine ⟨fun hq => ?_, fun hq => ?_⟩
    · refine isGraph_no fun hg => ?_
      have := (hg.2.2 k h).2.1
      rw [this] at hq
      simp at hq
    · have hq2 : popN (xs.getD k 0).toNat = 2 := by
        have := hq
        simp only [bne_eq_false_iff_eq] at this
        omega
      refine ⟨fun h0 => ⟨by omega, by omega, by omega, askK_of (c_impl_BeforeSet _ _) ?_⟩, fun h0 => ?_⟩
      · have hp := hall (k - 1) (by omega)
        have hb' := inSet_lt hp.1
        have e : befS (xs.getD (k - 1) 0) (xs.getD k 0) = decide (xs.getD (k - 1) 0 < xs.getD k 0) := by
          unfold befS
          rw [decide_eq_true hb', decide_eq_true hb, if_pos (by rw [szOf, szOf, if_pos hb', if_pos hb, hp.2.1, hq2])]
          rfl
        simp (maxSteps := 5000000) -dsimp only [↓gp, gq, reduceCtorEq, Nat.reduceEqDiff, Nat.reduceLT, Nat.reduceLeDiff, Nat.reduceAdd, Nat.reduceMul, Nat.reduceSub, Nat.reduceBEq, Int.reduceToNat, Int.reduceLE, Int.reduceLT, Int.reduceNeg, Nat.reduceMod, sid_ne1, sid_ne2, sid_inj, sid_mod, gT, TK.isInt, TK.agg, Array.toList, h1, r1, h14, h15, h16, hw, toNat_pred, e]
        refine ⟨fun hlt => ?_, fun hlt => ?_⟩
        · have hlt : ¬ xs.getD (k - 1) 0 < xs.getD k 0 := by simpa using hlt
          exact isGraph_no fun hg => hlt ((hg.2.2 k h).2.2 (by omega))
        · have hlt : xs.getD (k - 1) 0 < xs.getD k 0 := by
            rw [Bool.not_eq_false'] at hlt
            exact of_decide_eq_true hlt
          refine again_of (k + 1) ⟨by simp (maxSteps := 5000000) -dsimp only [gr, Nat.reduceEqDiff, Nat.reduceLT, Nat.reduceAdd, Nat.reduceMod, Nat.reduceBEq, sid_mod, sid_ne1, sid_ne2, sid_inj, h1], by simp (maxSteps := 5000000) -dsimp only [gr, Nat.reduceEqDiff, Nat.reduceLT, Nat.reduceAdd, Nat.reduceMod, Nat.reduceBEq, sid_mod, sid_ne1, sid_ne2, sid_inj, r1], by simp (maxSteps := 5000000) -dsimp only [gr, Nat.reduceEqDiff, Nat.reduceLT, Nat.reduceAdd, Nat.reduceMod, Nat.reduceBEq, sid_mod, sid_ne1, sid_ne2, sid_inj, h14], by simp (maxSteps := 5000000) -dsimp only [gr, Nat.reduceEqDiff, Nat.reduceLT, Nat.reduceAdd, Nat.reduceMod, Nat.reduceBEq, sid_mod, sid_ne1, sid_ne2, sid_inj, h15], by simp (maxSteps := 5000000) -dsimp only [gr, Nat.reduceEqDiff, Nat.reduceLT, Nat.reduceAdd, Nat.reduceMod, Nat.reduceBEq, sid_mod, sid_ne1, sid_ne2, sid_inj]; rw [wrap_nat h hl], h, fun j hj => ?_⟩ (by omega)
          rcases Nat.lt_succ_iff_lt_or_eq.1 hj with hj | rfl
          · exact hall j hj
          · exact ⟨hs, hq2, fun _ => hlt⟩
      · refine again_of (k + 1) ⟨by simp (maxSteps := 5000000) -dsimp only [gr, Nat.reduceEqDiff, Nat.reduceLT, Nat.reduceAdd, Nat.reduceMod, Nat.reduceBEq, sid_mod, sid_ne1, sid_ne2, sid_inj, h1], by simp (maxSteps := 5000000) -dsimp only [gr, Nat.reduceEqDiff, Nat.reduceLT, Nat.reduceAdd, Nat.reduceMod, Nat.reduceBEq, sid_mod, sid_ne1, sid_ne2, sid_inj, r1], by simp (maxSteps := 5000000) -dsimp only [gr, Nat.reduceEqDiff, Nat.reduceLT, Nat.reduceAdd, Nat.reduceMod, Nat.reduceBEq, sid_mod, sid_ne1, sid_ne2, sid_inj, h14], by simp (maxSteps := 5000000) -dsimp only [gr, Nat.reduceEqDiff, Nat.reduceLT, Nat.reduceAdd, Nat.reduceMod, Nat.reduceBEq, sid_mod, sid_ne1, sid_ne2, sid_inj, h15], by simp (maxSteps := 5000000) -dsimp only [gr, Nat.reduceEqDiff, Nat.reduceLT, Nat.reduceAdd, Nat.reduceMod, Nat.reduceBEq, sid_mod, sid_ne1, sid_ne2, sid_inj]; rw [wrap_nat h hl], h, fun j hj => ?_⟩ (by omega)
        rcases Nat.lt_succ_iff_lt_or_eq.1 hj with hj | rfl
        · exact hall j hj
        · exact ⟨hs, hq2, fun _ => by omega⟩
  · have hs : inSet n (xs.getD k 0) = false := by rwa [Bool.not_eq_true'] at hs
    exact isGraph_no fun hg => by have := (hg.2.2 k h).1; rw [hs] at this; cases this
end Go.Proofs.Ytnfpeinbdfmlnaa

namespace Go.Proofs.Ytnfpeinbdfmlnaa
open Go.Abs
set_option linter.unusedSimpArgs false
set_option linter.unusedVariables false
theorem szI_le {n : Int} {k : Nat} (h1 : n ≤ 1048576) (h : ¬ szI n k < 0) : 0 ≤ szI n k ∧ szI n k ≤ 1048576 ∧ k ≤ 1048576 := by
  unfold szI at h ⊢
  split at h
  · simp at h
  · rename_i h2
    rw [if_neg h2]
    omega
/-- Two numbered lists are one. -/
def sameG (n : Int) (xs : List Int) (m : Int) (ys : List Int) : Bool := n == m && decide (xs = ys)
theorem c_laws_szGraph (k : Int) (xs : List Int) (n : Int) (h0 : 0 ≤ n) (h1 : n ≤ 1048576) : AC Try.prog 49 [.ag [int k, ints xs], int n] (.im (int (szI n xs.length))) := by
  refine AC.go (rs := [.tmp 4]) T_ok mixed Try.func49 rfl rfl rfl (by kernel_rfl) fun hl => ?_
  simp (maxSteps := 5000000) -dsimp only [↓gp, gq, reduceCtorEq, Nat.reduceEqDiff, Nat.reduceLT, Nat.reduceLeDiff, Nat.reduceAdd, Nat.reduceMul, Nat.reduceSub, Nat.reduceBEq, Int.reduceToNat, Int.reduceLE, Int.reduceLT, Int.reduceNeg, Nat.reduceMod, sid_ne1, sid_ne2, sid_inj, sid_mod, gT, TK.isInt, TK.agg, Array.toList]
  refine askK_of (c_laws_szIntS xs n h0 h1) ?_
  simp (maxSteps := 5000000) -dsimp only [↓gp, gq, reduceCtorEq, Nat.reduceEqDiff, Nat.reduceLT, Nat.reduceLeDiff, Nat.reduceAdd, Nat.reduceMul, Nat.reduceSub, Nat.reduceBEq, Int.reduceToNat, Int.reduceLE, Int.reduceLT, Int.reduceNeg, Nat.reduceMod, sid_ne1, sid_ne2, sid_inj, sid_mod, gT, TK.isInt, TK.agg, Array.toList]
  have e : (if n - ↑xs.length < 0 then (-1 : Int) else n - ↑xs.length) = szI n xs.length := rfl
  simp only [e]
  refine ⟨fun h => ?_, fun _ => trivial⟩
  unfold szI at h ⊢
  split <;> omega
theorem c_laws_toGraph (n : Int) (xs : List Int) (hx : xs.length ≤ 1048576) : AC Try.prog 51 [.ag [int n, ints xs]] (.ag [.im (int n), .fr 3 1 (iL xs)]) := by
  refine AC.go (rs := [.cell 2 68]) T_ok mixed Try.func51 rfl rfl rfl (by kernel_rfl) fun hl => ?_
  simp (maxSteps := 5000000) -dsimp only [↓gp, gq, reduceCtorEq, Nat.reduceEqDiff, Nat.reduceLT, Nat.reduceLeDiff, Nat.reduceAdd, Nat.reduceMul, Nat.reduceSub, Nat.reduceBEq, Int.reduceToNat, Int.reduceLE, Int.reduceLT, Int.reduceNeg, Nat.reduceMod, sid_ne1, sid_ne2, sid_inj, sid_mod, gT, TK.isInt, TK.agg, Array.toList]
  refine askK_of (c_laws_toIntS xs hx) ?_
  simp (maxSteps := 5000000) -dsimp only [↓gp, gq, reduceCtorEq, Nat.reduceEqDiff, Nat.reduceLT, Nat.reduceLeDiff, Nat.reduceAdd, Nat.reduceMul, Nat.reduceSub, Nat.reduceBEq, Int.reduceToNat, Int.reduceLE, Int.reduceLT, Int.reduceNeg, Nat.reduceMod, sid_ne1, sid_ne2, sid_inj, sid_mod, gT, TK.isInt, TK.agg, Array.toList]
theorem c_laws_eqGraph (n m : Int) (xs ys : List Int) : AC Try.prog 53 [.ag [int n, ints xs], .ag [int m, ints ys]] (.im (bool (sameG n xs m ys))) := by
  refine AC.go (rs := [.tmp 4]) T_ok mixed Try.func53 rfl rfl rfl (by kernel_rfl) fun hl => ?_
  simp (maxSteps := 5000000) -dsimp only [↓gp, gq, reduceCtorEq, Nat.reduceEqDiff, Nat.reduceLT, Nat.reduceLeDiff, Nat.reduceAdd, Nat.reduceMul, Nat.reduceSub, Nat.reduceBEq, Int.reduceToNat, Int.reduceLE, Int.reduceLT, Int.reduceNeg, Nat.reduceMod, sid_ne1, sid_ne2, sid_inj, sid_mod, gT, TK.isInt, TK.agg, Array.toList]
  unfold sameG
  refine ⟨fun h => ?_, fun h => askK_of (c_laws_eqIntS xs ys) ?_⟩
  · simp at h
    simp [h]
  · simp (maxSteps := 5000000) -dsimp only [↓gp, gq, reduceCtorEq, Nat.reduceEqDiff, Nat.reduceLT, Nat.reduceLeDiff, Nat.reduceAdd, Nat.reduceMul, Nat.reduceSub, Nat.reduceBEq, Int.reduceToNat, Int.reduceLE, Int.reduceLT, Int.reduceNeg, Nat.reduceMod, sid_ne1, sid_ne2, sid_inj, sid_mod, gT, TK.isInt, TK.agg, Array.toList]
    simp at h
    exact ⟨fun h2 => by simpa [h] using h2, fun h2 => by simpa [h] using h2⟩
end Go.Proofs.Ytnfpeinbdfmlnaa

namespace Go.Proofs.Ytnfpeinbdfmlnaa
open Go.Abs
set_option linter.unusedSimpArgs false
set_option linter.unusedVariables false

theorem sameG_refl (n : Int) (xs : List Int) : sameG n xs n xs = true := by simp [sameG]
theorem c_slices_Clone (xs : List Int) (hx : xs.length ≤ 1048576) : AC Try.prog 136 [ints xs] (.fr 3 1 (iL xs)) := by
  refine AC.go (rs := [.tmp 2]) T_ok mixed Try.func136 rfl rfl rfl (by kernel_rfl) fun hl => ?_
  simp (maxSteps := 5000000) -dsimp only [↓gp, gq, reduceCtorEq, Nat.reduceEqDiff, Nat.reduceLT, Nat.reduceLeDiff, Nat.reduceAdd, Nat.reduceMul, Nat.reduceSub, Nat.reduceBEq, Int.reduceToNat, Int.reduceLE, Int.reduceLT, Int.reduceNeg, Nat.reduceMod, sid_ne1, sid_ne2, sid_inj, sid_mod, gT, TK.isInt, TK.agg, Array.toList]
  exact ⟨by omega, fun h => h.symm⟩
/-- Numbers from one on. -/
def mks (k : Int) (n : Nat) : List Int := (List.range n).map fun i : Nat => k + (i : Int)
theorem mks_length (k : Int) (n : Nat) : (mks k n).length = n := by simp [mks]
theorem mks_getD (k : Int) {n i : Nat} (h : i < n) : (mks k n).getD i 0 = k + i := by simp [mks, List.getD, h]
theorem mks_set (k : Int) (xs : List Int) {i : Nat} (h : i < xs.length) : (mks k i ++ xs.drop i).set i (k + i) = mks k (i + 1) ++ xs.drop (i + 1) := by
  have hl : (mks k i).length = i := mks_length k i
  rw [List.set_append_right _ _ (by omega), hl, Nat.sub_self]
  have e : xs.drop i = xs[i] :: xs.drop (i + 1) := by rw [List.drop_eq_getElem_cons h]
  rw [e, List.set_cons_zero]
  simp [mks, List.range_succ]
theorem c_laws_markIntS (xs : List Int) (k : Int) (hx : xs.length ≤ 1152921504606846976) (k0 : 0 ≤ k) (k1 : k ≤ 1152921504606846976) : AM Try.prog 22 [.own 1000000 1, int k] [⟨3, 1, iL xs⟩] [iL (mks k xs.length)] (.int .i64 (k + xs.length)) := by
  refine AM.go (rs := [.tmp 4]) T_ok mixed Try.func22 rfl rfl rfl (by kernel_rfl) (plainR_cons (plain_iL _) plainR_nil) (plains_cons (plain_iL _) plains_nil) rfl fun hl => ?_
  simp (maxSteps := 5000000) -dsimp only [↓gp, gq, reduceCtorEq, Nat.reduceEqDiff, Nat.reduceLT, Nat.reduceLeDiff, Nat.reduceAdd, Nat.reduceMul, Nat.reduceSub, Nat.reduceBEq, Int.reduceToNat, Int.reduceLE, Int.reduceLT, Int.reduceNeg, Nat.reduceMod, sid_ne1, sid_ne2, sid_inj, sid_mod, gT, TK.isInt, TK.agg, Array.toList]
  refine loop_of (fun (i : Nat) s => s.sl 0 = .own 1000000 1 ∧ s.rw 1000000 = ⟨1, .sli 3 1 false (iL (mks k i ++ xs.drop i))⟩ ∧ s.sl 1 = int (k + i) ∧ s.sl 5 = int i ∧ i ≤ xs.length) (fun i => xs.length - i) 0 ⟨by simp (maxSteps := 5000000) -dsimp only [gr, Nat.reduceEqDiff, Nat.reduceLT, Nat.reduceAdd, Nat.reduceMod, Nat.reduceBEq, sid_mod, sid_ne1, sid_ne2, sid_inj], by simp (maxSteps := 5000000) -dsimp only [gr, Nat.reduceEqDiff, Nat.reduceLT, Nat.reduceAdd, Nat.reduceMod, Nat.reduceBEq, sid_mod, sid_ne1, sid_ne2, sid_inj]; simp [mks], by simp (maxSteps := 5000000) -dsimp only [gr, Nat.reduceEqDiff, Nat.reduceLT, Nat.reduceAdd, Nat.reduceMod, Nat.reduceBEq, sid_mod, sid_ne1, sid_ne2, sid_inj]; simp, by simp (maxSteps := 5000000) -dsimp only [gr, Nat.reduceEqDiff, Nat.reduceLT, Nat.reduceAdd, Nat.reduceMod, Nat.reduceBEq, sid_mod, sid_ne1, sid_ne2, sid_inj]; rfl, by simp⟩ ?_
  intro i s1 ⟨h0, r0, h1, h5, hi⟩
  have hlen : (mks k i ++ xs.drop i).length = xs.length := by simp [mks_length]; omega
  simp (maxSteps := 5000000) -dsimp only [↓gp, gq, reduceCtorEq, Nat.reduceEqDiff, Nat.reduceLT, Nat.reduceLeDiff, Nat.reduceAdd, Nat.reduceMul, Nat.reduceSub, Nat.reduceBEq, Int.reduceToNat, Int.reduceLE, Int.reduceLT, Int.reduceNeg, Nat.reduceMod, sid_ne1, sid_ne2, sid_inj, sid_mod, gT, TK.isInt, TK.agg, Array.toList, h0, r0, h1, h5, hlen]
  refine ⟨fun h => ⟨by omega, by omega, again_of (i + 1) ⟨by simp (maxSteps := 5000000) -dsimp only [gr, Nat.reduceEqDiff, Nat.reduceLT, Nat.reduceAdd, Nat.reduceMod, Nat.reduceBEq, sid_mod, sid_ne1, sid_ne2, sid_inj, h0], by simp (maxSteps := 5000000) -dsimp only [gr, Nat.reduceEqDiff, Nat.reduceLT, Nat.reduceAdd, Nat.reduceMod, Nat.reduceBEq, sid_mod, sid_ne1, sid_ne2, sid_inj, r0]; rw [mks_set k xs h], ?_, ?_, by omega⟩ (by omega)⟩, fun h => ?_⟩
  · simp (maxSteps := 5000000) -dsimp only [gr, Nat.reduceEqDiff, Nat.reduceLT, Nat.reduceAdd, Nat.reduceMod, Nat.reduceBEq, sid_mod, sid_ne1, sid_ne2, sid_inj]
    rw [wrap_id (by omega) (by omega)]; congr 2; omega
  · simp (maxSteps := 5000000) -dsimp only [gr, Nat.reduceEqDiff, Nat.reduceLT, Nat.reduceAdd, Nat.reduceMod, Nat.reduceBEq, sid_mod, sid_ne1, sid_ne2, sid_inj]
    rw [wrap_nat h (by omega)]
  · obtain rfl : i = xs.length := by omega
    simp
theorem c_laws_heldIntS (k : Int) (n : Nat) (hn : n ≤ 1152921504606846976) (k0 : 0 ≤ k) (k1 : k ≤ 1152921504606846976) : AC Try.prog 23 [ints (mks k n), int k] (.im (int (k + n))) := by
  refine AC.go (rs := [.tmp 4]) T_ok mixed Try.func23 rfl rfl rfl (by kernel_rfl) fun hl => ?_
  simp (maxSteps := 5000000) -dsimp only [↓gp, gq, reduceCtorEq, Nat.reduceEqDiff, Nat.reduceLT, Nat.reduceLeDiff, Nat.reduceAdd, Nat.reduceMul, Nat.reduceSub, Nat.reduceBEq, Int.reduceToNat, Int.reduceLE, Int.reduceLT, Int.reduceNeg, Nat.reduceMod, sid_ne1, sid_ne2, sid_inj, sid_mod, gT, TK.isInt, TK.agg, Array.toList]
  refine loop_of (fun (i : Nat) s => s.sl 0 = ints (mks k n) ∧ s.sl 1 = int (k + i) ∧ s.sl 5 = int i ∧ i ≤ n) (fun i => n - i) 0 ⟨by simp (maxSteps := 5000000) -dsimp only [gr, Nat.reduceEqDiff, Nat.reduceLT, Nat.reduceAdd, Nat.reduceMod, Nat.reduceBEq, sid_mod, sid_ne1, sid_ne2, sid_inj], by simp (maxSteps := 5000000) -dsimp only [gr, Nat.reduceEqDiff, Nat.reduceLT, Nat.reduceAdd, Nat.reduceMod, Nat.reduceBEq, sid_mod, sid_ne1, sid_ne2, sid_inj]; simp, by simp (maxSteps := 5000000) -dsimp only [gr, Nat.reduceEqDiff, Nat.reduceLT, Nat.reduceAdd, Nat.reduceMod, Nat.reduceBEq, sid_mod, sid_ne1, sid_ne2, sid_inj]; rfl, by simp⟩ ?_
  intro i s1 ⟨h0, h1, h5, hi⟩
  simp (maxSteps := 5000000) -dsimp only [↓gp, gq, reduceCtorEq, Nat.reduceEqDiff, Nat.reduceLT, Nat.reduceLeDiff, Nat.reduceAdd, Nat.reduceMul, Nat.reduceSub, Nat.reduceBEq, Int.reduceToNat, Int.reduceLE, Int.reduceLT, Int.reduceNeg, Nat.reduceMod, sid_ne1, sid_ne2, sid_inj, sid_mod, gT, TK.isInt, TK.agg, Array.toList, h0, h1, h5, mks_length]
  refine ⟨fun h => ⟨h, h, fun hc => ?_, fun hc => again_of (i + 1) ⟨by simp (maxSteps := 5000000) -dsimp only [gr, Nat.reduceEqDiff, Nat.reduceLT, Nat.reduceAdd, Nat.reduceMod, Nat.reduceBEq, sid_mod, sid_ne1, sid_ne2, sid_inj, h0], ?_, ?_, by omega⟩ (by omega)⟩, fun h => ?_⟩
  · rw [mks_getD k h] at hc
    simp at hc
  · simp (maxSteps := 5000000) -dsimp only [gr, Nat.reduceEqDiff, Nat.reduceLT, Nat.reduceAdd, Nat.reduceMod, Nat.reduceBEq, sid_mod, sid_ne1, sid_ne2, sid_inj]
    rw [wrap_id (by omega) (by omega)]; congr 2; omega
  · simp (maxSteps := 5000000) -dsimp only [gr, Nat.reduceEqDiff, Nat.reduceLT, Nat.reduceAdd, Nat.reduceMod, Nat.reduceBEq, sid_mod, sid_ne1, sid_ne2, sid_inj]
    rw [wrap_nat h (by omega)]
  · obtain rfl : i = n := by omega
    rfl
theorem c_laws_markIdeal (n : Int) (xs : List Int) (k : Int) (hx : xs.length ≤ 1152921504606846976) (k0 : 0 ≤ k) (k1 : k ≤ 1152921504606846976) : AM Try.prog 34 [.ag [int n, .own 1000000 1], int k] [⟨3, 1, iL xs⟩] [iL (mks k xs.length)] (.int .i64 (k + xs.length)) := by
  refine AM.go (rs := [.tmp 4]) T_ok mixed Try.func34 rfl rfl rfl (by kernel_rfl) (plainR_cons (plain_iL _) plainR_nil) (plains_cons (plain_iL _) plains_nil) rfl fun hl => ?_
  simp (maxSteps := 5000000) -dsimp only [↓gp, gq, reduceCtorEq, Nat.reduceEqDiff, Nat.reduceLT, Nat.reduceLeDiff, Nat.reduceAdd, Nat.reduceMul, Nat.reduceSub, Nat.reduceBEq, Int.reduceToNat, Int.reduceLE, Int.reduceLT, Int.reduceNeg, Nat.reduceMod, sid_ne1, sid_ne2, sid_inj, sid_mod, gT, TK.isInt, TK.agg, Array.toList]
  refine askM_of (c_laws_markIntS xs k hx k0 k1) [(1000000, 1)] (by repeat (first | exact GiveL.nil | refine GiveL.v ?_ | refine GiveL.own 0 rfl ?_ | refine GiveL.own 1 rfl ?_ | refine GiveL.ag ?_ ?_)) ⟨by simp (maxSteps := 5000000) -dsimp only [gr, Nat.reduceEqDiff, Nat.reduceLT, Nat.reduceAdd, Nat.reduceMod, Nat.reduceBEq, sid_mod, sid_ne1, sid_ne2, sid_inj], trivial⟩ (by decide) ?_
  simp (maxSteps := 5000000) -dsimp only [↓gp, gq, reduceCtorEq, Nat.reduceEqDiff, Nat.reduceLT, Nat.reduceLeDiff, Nat.reduceAdd, Nat.reduceMul, Nat.reduceSub, Nat.reduceBEq, Int.reduceToNat, Int.reduceLE, Int.reduceLT, Int.reduceNeg, Nat.reduceMod, sid_ne1, sid_ne2, sid_inj, sid_mod, gT, TK.isInt, TK.agg, Array.toList]
theorem c_laws_heldIdeal (m : Int) (k : Int) (n : Nat) (hn : n ≤ 1152921504606846976) (k0 : 0 ≤ k) (k1 : k ≤ 1152921504606846976) : AC Try.prog 35 [.ag [int m, ints (mks k n)], int k] (.im (int (k + n))) := by
  refine AC.go (rs := [.tmp 4]) T_ok mixed Try.func35 rfl rfl rfl (by kernel_rfl) fun hl => ?_
  simp (maxSteps := 5000000) -dsimp only [↓gp, gq, reduceCtorEq, Nat.reduceEqDiff, Nat.reduceLT, Nat.reduceLeDiff, Nat.reduceAdd, Nat.reduceMul, Nat.reduceSub, Nat.reduceBEq, Int.reduceToNat, Int.reduceLE, Int.reduceLT, Int.reduceNeg, Nat.reduceMod, sid_ne1, sid_ne2, sid_inj, sid_mod, gT, TK.isInt, TK.agg, Array.toList]
  refine askK_of (c_laws_heldIntS k n hn k0 k1) ?_
  simp (maxSteps := 5000000) -dsimp only [↓gp, gq, reduceCtorEq, Nat.reduceEqDiff, Nat.reduceLT, Nat.reduceLeDiff, Nat.reduceAdd, Nat.reduceMul, Nat.reduceSub, Nat.reduceBEq, Int.reduceToNat, Int.reduceLE, Int.reduceLT, Int.reduceNeg, Nat.reduceMod, sid_ne1, sid_ne2, sid_inj, sid_mod, gT, TK.isInt, TK.agg, Array.toList]
  intro h
  omega
theorem c_laws_eqIdeal (n m : Int) (xs ys : List Int) : AC Try.prog 33 [.ag [int n, ints xs], .ag [int m, ints ys]] (.im (bool (sameG n xs m ys))) := by
  refine AC.go (rs := [.tmp 4]) T_ok mixed Try.func33 rfl rfl rfl (by kernel_rfl) fun hl => ?_
  simp (maxSteps := 5000000) -dsimp only [↓gp, gq, reduceCtorEq, Nat.reduceEqDiff, Nat.reduceLT, Nat.reduceLeDiff, Nat.reduceAdd, Nat.reduceMul, Nat.reduceSub, Nat.reduceBEq, Int.reduceToNat, Int.reduceLE, Int.reduceLT, Int.reduceNeg, Nat.reduceMod, sid_ne1, sid_ne2, sid_inj, sid_mod, gT, TK.isInt, TK.agg, Array.toList]
  unfold sameG
  refine ⟨fun h => ?_, fun h => askK_of (c_laws_eqIntS xs ys) ?_⟩
  · simp at h
    simp [h]
  · simp (maxSteps := 5000000) -dsimp only [↓gp, gq, reduceCtorEq, Nat.reduceEqDiff, Nat.reduceLT, Nat.reduceLeDiff, Nat.reduceAdd, Nat.reduceMul, Nat.reduceSub, Nat.reduceBEq, Int.reduceToNat, Int.reduceLE, Int.reduceLT, Int.reduceNeg, Nat.reduceMod, sid_ne1, sid_ne2, sid_inj, sid_mod, gT, TK.isInt, TK.agg, Array.toList]
    simp at h
    exact ⟨fun h2 => by simpa [h] using h2, fun h2 => by simpa [h] using h2⟩
/-- What both make of a graph. -/
noncomputable def idealOf (n : Int) (xs : List Int) : RV := .tup [.ag [.im (int (if isGraph n xs = true then n else 0)), .fr 3 1 (iL (if isGraph n xs = true then xs else []))], .im (bool (isGraph n xs))]
end Go.Proofs.Ytnfpeinbdfmlnaa

namespace Go.Proofs.Ytnfpeinbdfmlnaa
open Go.Abs
set_option linter.unusedSimpArgs false
set_option linter.unusedVariables false

theorem tabI_got {rw R : Nat → Row} {k v e e2 n : Nat} {M : Mat} (h1 : rw k = ⟨v, .tab e (tabCells R k 0 n)⟩) (hR : ∀ j, j < n → (R (sid k j)).ver = 0) (h2 : ∀ j, j < n → rw (sid k j) = ⟨1, .sli e2 1 false (iL (M.getD j []))⟩) (hn : M.length = n) : TabI rw k v e e2 (List.range n) M := by
  refine ⟨⟨by rw [h1, tabCells_eq R k n hR], by simp [hn], fun j hj => ?_⟩, List.nodup_range⟩
  have hj : j < n := by simpa using hj
  have e1 : (List.range n).getD j 0 = j := by simp [List.getD, hj]
  rw [e1, mapI_getD]; exact h2 j hj
/-- A table handed over, the state told by what it holds. -/
theorem askTab_of {P : Program} {s : St} {K : St → Prop} {f : FuncId} {args raw : List PV} {Ka : RV → Prop} {d e e2 : Nat} {us : Dm s} {u : Dm K} {M : Mat} (h : AC P f args (.tb e e2 (M.map iL))) (hd : ∀ i, i < M.length → (s.rw (sid d i)).ver = 0)
    (hk : ∀ S : St, TabI S.rw d ((s.rw d).ver + 1) e e2 (List.range M.length) M → S.sl d = .own d ((s.rw d).ver + 1) → (∀ t, t ≠ d → S.sl t = s.sl t) → (∀ j, (j % 1000 == d % 1000) = false → S.rw j = s.rw j) → K S) : askK P f args Ka (askR P f args raw (some d) (kk s us) (kk K u)) :=
  askWk_of _ h (Wk.refl _) (hk _ ⟨by
    have := adoptT_is (s := s) d e e2 (M.map iL) (fun i hi => hd i (by simpa using hi))
    rwa [List.length_map] at this, List.nodup_range⟩ (adoptT_sl d e e2 _) (fun t ht => adoptT_slne d e e2 t _ ht) (fun j hj => adoptT_rw d e e2 j _ hj))
theorem askTabM_of {P : Program} {s : St} {K : St → Prop} {f : FuncId} {args raw lent : List PV} {Ka : RV → Prop} {d e e2 k v : Nat} {us : Dm s} {u : Dm K} {M M' : Mat} {p : List Nat} {x : Value} (h : AT P f args e e2 (M.map iL) (M'.map iL) (.rv (.im (.v x)))) (hg : GiveL [(k, v)] raw args) (ht : TabI s.rw k v e e2 p M) (hl : M'.length = M.length) (hdk : d % 1000 ≠ k % 1000)
    (hk : ∀ (S : St) (q : List Nat), TabI S.rw k v e e2 q M' → q.Perm p → S.sl d = .v x → (∀ t, t ≠ d → S.sl t = s.sl t) → (∀ j, (j % 1000 == k % 1000) = false → S.rw j = s.rw j) → K S) : askK P f lent Ka (askR P f lent raw (some d) (kk s us) (kk K u)) := by
  refine askT_of h hg ht.is ht.nd fun p' hp' => ?_
  have hpl : p'.length = (M'.map iL).length := by rw [hp'.length_eq, ht.len]; simp [hl]
  have hn := hp'.nodup_iff.2 ht.nd
  have h0 : TabI (s.tabbed k v e e2 p' (M'.map iL)).rw k v e e2 p' M' := ⟨⟨tabbed_top .., hpl, fun i hi => tabbed_row hn hi⟩, hn⟩
  refine ⟨hdk, ?_⟩
  rw [adopt_im]
  exact hk _ p' h0 hp' (put_sl_same ..) (fun t ht => put_sl_ne _ _ _ _ ht) (fun j hj => tabbed_rw _ _ _ _ _ _ _ hj)
theorem lend_tabI {rw : Nat → Row} {k v e e2 : Nat} {p : List Nat} {M : Mat} (h : TabI rw k v e e2 p M) (rw' : Nat → Row) (hr : ∀ j, rw' (sid k j) = rw (sid k j)) : (cellsT k p).map (lendC rw') = iLL M := by
  rw [← mapT_I, ← lend_cellsT h.is]
  refine List.map_congr_left fun c hc => ?_
  obtain ⟨j, _, rfl⟩ := List.mem_map.1 hc
  simp only [lendC, hr]
/-- The lengths of the first rows. -/
def sumL (M : Mat) : Nat → Nat | 0 => 0 | i + 1 => sumL M i + (M.getD i []).length
/-- The first rows marked. -/
def mixM (k : Int) (M : Mat) (i : Nat) : Mat := (List.range M.length).map fun j => if j < i then mks (k + sumL M j) (M.getD j []).length else M.getD j []
theorem mixM_length (k : Int) (M : Mat) (i : Nat) : (mixM k M i).length = M.length := by simp [mixM]
theorem mixM_getD (k : Int) (M : Mat) (i : Nat) {j : Nat} (h : j < M.length) : (mixM k M i).getD j [] = if j < i then mks (k + sumL M j) (M.getD j []).length else M.getD j [] := by simp [mixM, List.getD, h]
theorem mixM_zero (k : Int) (M : Mat) : mixM k M 0 = M := by
  refine List.ext_getElem (by simp [mixM]) fun j a b => ?_
  simp [mixM, List.getD, b]
theorem mixM_set (k : Int) (M : Mat) {i : Nat} (h : i < M.length) : (mixM k M i).set i (mks (k + sumL M i) (M.getD i []).length) = mixM k M (i + 1) := by
  refine List.ext_getElem (by simp [mixM]) fun j a b => ?_
  rw [List.getElem_set]
  simp only [mixM, List.getElem_map, List.getElem_range]
  by_cases e : i = j
  · subst e; simp
  · rw [if_neg e]
    by_cases h1 : j < i
    · rw [if_pos h1, if_pos (by omega)]
    · rw [if_neg h1, if_neg (by omega)]
theorem sumL_mono (M : Mat) {i j : Nat} (h : i ≤ j) : sumL M i ≤ sumL M j := by
  induction j with
  | zero => have : i = 0 := by omega
            rw [this]; exact Nat.le_refl _
  | succ j ih =>
    by_cases e : i = j + 1
    · rw [e]; exact Nat.le_refl _
    · exact Nat.le_trans (ih (by omega)) (Nat.le_add_right _ _)
theorem sumL_row (M : Mat) {i : Nat} (h : i < M.length) : sumL M i + (M.getD i []).length ≤ sumL M M.length := by
  have := sumL_mono M (show i + 1 ≤ M.length by omega)
  rwa [sumL] at this
theorem c_laws_markIntSSG (M : Mat) (hl7 : M.length ≤ 1000000000000) (hsm : sumL M M.length ≤ 1000000000000) : AT Try.prog 29 [.own 1000000 1, int 1] 31 3 (M.map iL) ((mixM 1 M M.length).map iL) (.rv (.im (int (1 + (sumL M M.length : Int))))) := by
  refine AT.goI (rs := [.tmp 4]) T_ok mixed Try.func29 rfl rfl rfl (by kernel_rfl) (mixM_length _ _ _) fun hl s hs hlow ht => ?_
  simp (maxSteps := 5000000) -dsimp only [↓gp, gq, reduceCtorEq, Nat.reduceEqDiff, Nat.reduceLT, Nat.reduceLeDiff, Nat.reduceAdd, Nat.reduceMul, Nat.reduceSub, Nat.reduceBEq, Int.reduceToNat, Int.reduceLE, Int.reduceLT, Int.reduceNeg, Nat.reduceMod, sid_ne1, sid_ne2, sid_inj, sid_mod, gT, TK.isInt, TK.agg, Array.toList, hs, hlow, ht.top]
  refine loop_of (fun (i : Nat) s => s.sl 0 = .own 1000000 1 ∧ s.sl 1 = int (1 + (sumL M i : Int)) ∧ s.sl 5 = int i ∧ (i ≤ M.length ∧ TabI s.rw 1000000 1 31 3 (List.range M.length) (mixM 1 M i))) (fun i => M.length - i) (0) (by refine ⟨?_, ?_, ?_, ⟨by omega, by rw [mixM_zero]; exact ht.same (by simp (maxSteps := 5000000) -dsimp only [gr, Nat.reduceEqDiff, Nat.reduceLT, Nat.reduceAdd, Nat.reduceMod, Nat.reduceBEq, sid_mod, sid_ne1, sid_ne2, sid_inj]) (fun x => by simp (maxSteps := 5000000) -dsimp only [gr, Nat.reduceEqDiff, Nat.reduceLT, Nat.reduceAdd, Nat.reduceMod, Nat.reduceBEq, sid_mod, sid_ne1, sid_ne2, sid_inj])⟩⟩ <;> (first | (simp (maxSteps := 5000000) -dsimp only [gr, Nat.reduceEqDiff, Nat.reduceLT, Nat.reduceAdd, Nat.reduceMod, Nat.reduceBEq, sid_mod, sid_ne1, sid_ne2, sid_inj, hs, sumL]; first | done | rfl | (simp; done)) | assumption | rfl)) ?_
  intro i sa ⟨h0a, h1a, h5a, hIa⟩
  obtain ⟨hi, ht1⟩ := hIa
  have hml := mixM_length 1 M i
  have hsl := sumL_mono M hi
  simp (maxSteps := 5000000) -dsimp only [↓gp, gq, reduceCtorEq, Nat.reduceEqDiff, Nat.reduceLT, Nat.reduceLeDiff, Nat.reduceAdd, Nat.reduceMul, Nat.reduceSub, Nat.reduceBEq, Int.reduceToNat, Int.reduceLE, Int.reduceLT, Int.reduceNeg, Nat.reduceMod, sid_ne1, sid_ne2, sid_inj, sid_mod, gT, TK.isInt, TK.agg, Array.toList, h0a, h1a, h5a, ht1.top, cellsT_length, List.length_range]
  refine ⟨fun h => ?_, fun h => ?_⟩
  · have hr := ht1.row (i := i) (by omega)
    rw [rangeG h, mixM_getD 1 M i h, if_neg (by omega)] at hr
    have hrl := sumL_row M h
    simp (maxSteps := 5000000) -dsimp only [↓gp, gq, reduceCtorEq, Nat.reduceEqDiff, Nat.reduceLT, Nat.reduceLeDiff, Nat.reduceAdd, Nat.reduceMul, Nat.reduceSub, Nat.reduceBEq, Int.reduceToNat, Int.reduceLE, Int.reduceLT, Int.reduceNeg, Nat.reduceMod, sid_ne1, sid_ne2, sid_inj, sid_mod, gT, TK.isInt, TK.agg, Array.toList, h0a, h1a, h5a, ht1.top, ld_cellsT, rangeG h, hr, List.length_range]
    refine ⟨h, h, askM_of (c_laws_markIntS (M.getD i []) (1 + (sumL M i : Int)) (by omega) (by omega) (by omega)) [(sid 1000000 i, 1)] (by repeat (first | exact GiveL.nil | refine GiveL.v ?_ | refine GiveL.own 0 rfl ?_ | refine GiveL.own 1 rfl ?_ | refine GiveL.ag ?_ ?_)) ⟨by simp (maxSteps := 5000000) -dsimp only [gr, Nat.reduceEqDiff, Nat.reduceLT, Nat.reduceAdd, Nat.reduceMod, Nat.reduceBEq, sid_mod, sid_ne1, sid_ne2, sid_inj, h0a, h1a, h5a, hr], trivial⟩ (by simp) ?_⟩
    have es : 1 + (sumL M i : Int) + (M.getD i []).length = 1 + (sumL M (i + 1) : Int) := by rw [sumL]; omega
    have hms := mixM_set 1 M h
    simp (maxSteps := 5000000) -dsimp only [↓gp, gq, reduceCtorEq, Nat.reduceEqDiff, Nat.reduceLT, Nat.reduceLeDiff, Nat.reduceAdd, Nat.reduceMul, Nat.reduceSub, Nat.reduceBEq, Int.reduceToNat, Int.reduceLE, Int.reduceLT, Int.reduceNeg, Nat.reduceMod, sid_ne1, sid_ne2, sid_inj, sid_mod, gT, TK.isInt, TK.agg, Array.toList, h0a, h1a, h5a, ht1.top, hr, es]
    exact again_of (i + 1) (by refine ⟨?_, ?_, ?_, ⟨by omega, by
      rw [← hms]
      exact ht1.set (i := i) (by omega) (by simp (maxSteps := 5000000) -dsimp only [gr, Nat.reduceEqDiff, Nat.reduceLT, Nat.reduceAdd, Nat.reduceMod, Nat.reduceBEq, sid_mod, sid_ne1, sid_ne2, sid_inj, h0a, h1a, h5a]) (by simp (maxSteps := 5000000) -dsimp only [gr, Nat.reduceEqDiff, Nat.reduceLT, Nat.reduceAdd, Nat.reduceMod, Nat.reduceBEq, sid_mod, sid_ne1, sid_ne2, sid_inj, rangeG h, h0a, h1a, h5a, hr]) (fun x hx => by simp (maxSteps := 5000000) -dsimp only [gr, Nat.reduceEqDiff, Nat.reduceLT, Nat.reduceAdd, Nat.reduceMod, Nat.reduceBEq, sid_mod, sid_ne1, sid_ne2, sid_inj, rangeG h ▸ hx])⟩⟩ <;> (first | (simp (maxSteps := 5000000) -dsimp only [gr, Nat.reduceEqDiff, Nat.reduceLT, Nat.reduceAdd, Nat.reduceMod, Nat.reduceBEq, sid_mod, sid_ne1, sid_ne2, sid_inj, h0a, h1a, h5a, wrap_nat h (by omega), es]; first | done | rfl | (simp; done)) | assumption | rfl)) (by first | omega | (simp only; omega) | (dsimp only; omega) | (show _ < _; simp; omega))
  · have : i = M.length := by omega
    subst this
    exact ⟨tabEnd_of ht1 (List.Perm.refl _), rfl⟩
theorem c_laws_heldIntSSG (M : Mat) (hl7 : M.length ≤ 1000000000000) (hsm : sumL M M.length ≤ 1000000000000) : AC Try.prog 46 [int2 (mixM 1 M M.length), int 1] (.im (int (1 + (sumL M M.length : Int)))) := by
  refine AC.go (rs := [.tmp 4]) T_ok mixed Try.func46 rfl rfl rfl (by kernel_rfl) fun hl => ?_
  have hml := mixM_length 1 M M.length
  simp (maxSteps := 5000000) -dsimp only [↓gp, gq, reduceCtorEq, Nat.reduceEqDiff, Nat.reduceLT, Nat.reduceLeDiff, Nat.reduceAdd, Nat.reduceMul, Nat.reduceSub, Nat.reduceBEq, Int.reduceToNat, Int.reduceLE, Int.reduceLT, Int.reduceNeg, Nat.reduceMod, sid_ne1, sid_ne2, sid_inj, sid_mod, gT, TK.isInt, TK.agg, Array.toList]
  refine loop_of (fun (i : Nat) s => s.sl 0 = int2 (mixM 1 M M.length) ∧ s.sl 1 = int (1 + (sumL M i : Int)) ∧ s.sl 5 = int i ∧ (i ≤ M.length)) (fun i => M.length - i) (0) (by refine ⟨?_, ?_, ?_, by omega⟩ <;> (first | (simp (maxSteps := 5000000) -dsimp only [gr, Nat.reduceEqDiff, Nat.reduceLT, Nat.reduceAdd, Nat.reduceMod, Nat.reduceBEq, sid_mod, sid_ne1, sid_ne2, sid_inj, sumL]; first | done | rfl | (simp; done)) | assumption | rfl)) ?_
  intro i sa ⟨h0a, h1a, h5a, hIa⟩
  have hsl := sumL_mono M hIa
  simp (maxSteps := 5000000) -dsimp only [↓gp, gq, reduceCtorEq, Nat.reduceEqDiff, Nat.reduceLT, Nat.reduceLeDiff, Nat.reduceAdd, Nat.reduceMul, Nat.reduceSub, Nat.reduceBEq, Int.reduceToNat, Int.reduceLE, Int.reduceLT, Int.reduceNeg, Nat.reduceMod, sid_ne1, sid_ne2, sid_inj, sid_mod, gT, TK.isInt, TK.agg, Array.toList, h0a, h1a, h5a, hml]
  refine ⟨fun h => ?_, fun h => ?_⟩
  · have hg : (mixM 1 M M.length).getD i [] = mks (1 + (sumL M i : Int)) (M.getD i []).length := by rw [mixM_getD 1 M _ h, if_pos h]
    have hrl := sumL_row M h
    simp (maxSteps := 5000000) -dsimp only [↓gp, gq, reduceCtorEq, Nat.reduceEqDiff, Nat.reduceLT, Nat.reduceLeDiff, Nat.reduceAdd, Nat.reduceMul, Nat.reduceSub, Nat.reduceBEq, Int.reduceToNat, Int.reduceLE, Int.reduceLT, Int.reduceNeg, Nat.reduceMod, sid_ne1, sid_ne2, sid_inj, sid_mod, gT, TK.isInt, TK.agg, Array.toList, h0a, h1a, h5a, hml, hg]
    refine ⟨h, h, askK_of (c_laws_heldIntS (1 + (sumL M i : Int)) (M.getD i []).length (by omega) (by omega) (by omega)) ?_⟩
    have es : 1 + (sumL M i : Int) + (M.getD i []).length = 1 + (sumL M (i + 1) : Int) := by rw [sumL]; omega
    have hn : decide (1 + (sumL M (i + 1) : Int) < 0) = false := decide_eq_false (by omega)
    simp (maxSteps := 5000000) -dsimp only [↓gp, gq, reduceCtorEq, Nat.reduceEqDiff, Nat.reduceLT, Nat.reduceLeDiff, Nat.reduceAdd, Nat.reduceMul, Nat.reduceSub, Nat.reduceBEq, Int.reduceToNat, Int.reduceLE, Int.reduceLT, Int.reduceNeg, Nat.reduceMod, sid_ne1, sid_ne2, sid_inj, sid_mod, gT, TK.isInt, TK.agg, Array.toList, h0a, h1a, h5a, hml, hg, es, hn]
    exact again_of (i + 1) (by refine ⟨?_, ?_, ?_, by omega⟩ <;> (first | (simp (maxSteps := 5000000) -dsimp only [gr, Nat.reduceEqDiff, Nat.reduceLT, Nat.reduceAdd, Nat.reduceMod, Nat.reduceBEq, sid_mod, sid_ne1, sid_ne2, sid_inj, h0a, h1a, h5a, wrap_nat h (by omega), es]; first | done | rfl | (simp; done)) | assumption | rfl)) (by first | omega | (simp only; omega) | (dsimp only; omega) | (show _ < _; simp; omega))
  · have : i = M.length := by omega
    rw [this]
end Go.Proofs.Ytnfpeinbdfmlnaa

namespace Go.Proofs.Ytnfpeinbdfmlnaa
open Go.Abs
set_option linter.unusedSimpArgs false
set_option linter.unusedVariables false

theorem sumL_szL : ∀ (x : Mat) (n : Int), ¬ szL x n < 0 → 0 ≤ n → (sumL x x.length : Int) ≤ n := by
  have cons : ∀ (r : List Int) (rs : Mat) (i : Nat), sumL (r :: rs) (i + 1) = r.length + sumL rs i := by
    intro r rs i
    induction i with
    | zero => simp [sumL]
    | succ i ih => rw [sumL, ih, sumL]; simp; omega
  intro x
  induction x with
  | nil => intro n _ h0; simp [sumL]; exact h0
  | cons r rs ih =>
    intro n h h0
    simp only [szL] at h
    split at h
    · simp at h
    · rename_i h2
      have h3 : szI n r.length = n - r.length ∧ 0 ≤ n - (r.length : Int) := by
        unfold szI at h2 ⊢
        split at h2
        · simp at h2
        · exact ⟨if_neg ‹_›, by omega⟩
      rw [h3.1] at h
      have := ih _ h h3.2
      rw [List.length_cons, cons]
      omega
theorem szSS_sum {x : Mat} (h : ¬ szSS x 1048576 < 0) : x.length + sumL x x.length ≤ 1048576 := by
  unfold szSS at h
  split at h
  · simp at h
  · rename_i h2
    have h3 : (1048576 : Int) - x.length ≥ 0 := by
      unfold szI at h2
      split at h2
      · simp at h2
      · omega
    have h4 : szI 1048576 x.length = 1048576 - x.length := by unfold szI; rw [if_neg (by omega)]
    rw [h4] at h
    have := sumL_szL x _ h (by omega)
    omega
theorem c_laws_toIntSSN (x : Mat) (hx : x.length ≤ 1048576) (hr : ∀ r ∈ x, r.length ≤ 1048576) : ANw Try.prog 26 [int2 x] wrapI 31 3 x := by
  refine ANw.go (rs := [.tmp 2]) T_ok mixed Try.func26 rfl rfl rfl (by kernel_rfl) fun _ s hs hlow => ?_
  simp (maxSteps := 5000000) -dsimp only [↓gp, gq, reduceCtorEq, Nat.reduceEqDiff, Nat.reduceLT, Nat.reduceLeDiff, Nat.reduceAdd, Nat.reduceMul, Nat.reduceSub, Nat.reduceBEq, Int.reduceToNat, Int.reduceLE, Int.reduceLT, Int.reduceNeg, Nat.reduceMod, sid_ne1, sid_ne2, sid_inj, sid_mod, gT, TK.isInt, TK.agg, Array.toList, hs, hlow]
  refine ⟨by omega, by omega, ?_⟩
  refine loop_ini (k := 7) (v := 1) (e := 31) (e2 := 3) (n := x.length) (by simp (maxSteps := 5000000) -dsimp only [gr, Nat.reduceEqDiff, Nat.reduceLT, Nat.reduceAdd, Nat.reduceMod, Nat.reduceBEq, sid_mod, sid_ne1, sid_ne2, sid_inj, hlow]) (fun j => by simp (maxSteps := 5000000) -dsimp only [gr, Nat.reduceEqDiff, Nat.reduceLT, Nat.reduceAdd, Nat.reduceMod, Nat.reduceBEq, sid_mod, sid_ne1, sid_ne2, sid_inj, hlow]) (fun (i : Nat) s => s.sl 0 = int2 x ∧ s.sl 3 = .own 7 1 ∧ s.sl 4 = int i ∧ (i ≤ x.length ∧ TabP s.rw 7 1 31 3 x.length i (x.take i))) (fun i => x.length - i) (0) (fun sX htX hslX hoX => (by refine ⟨?_, ?_, ?_, ⟨by omega, htX⟩⟩ <;> (first | (simp (maxSteps := 5000000) -dsimp only [gr, Nat.reduceEqDiff, Nat.reduceLT, Nat.reduceAdd, Nat.reduceMod, Nat.reduceBEq, sid_mod, sid_ne1, sid_ne2, sid_inj, hslX, hoX, hs]; first | done | rfl | (simp; done)) | assumption | rfl))) ?_
  intro i sa ⟨h0a, h3a, h4a, hIa⟩
  obtain ⟨hi, ht⟩ := hIa
  simp (maxSteps := 5000000) -dsimp only [↓gp, gq, reduceCtorEq, Nat.reduceEqDiff, Nat.reduceLT, Nat.reduceLeDiff, Nat.reduceAdd, Nat.reduceMul, Nat.reduceSub, Nat.reduceBEq, Int.reduceToNat, Int.reduceLE, Int.reduceLT, Int.reduceNeg, Nat.reduceMod, sid_ne1, sid_ne2, sid_inj, sid_mod, gT, TK.isInt, TK.agg, Array.toList, h0a, h3a, h4a, ht.top, tabC_length]
  refine ⟨fun h => ⟨h, h, askK_of (c_laws_toIntS _ (hr _ (getD_mem [] h))) ?_⟩, fun h => ?_⟩
  · simp (maxSteps := 5000000) -dsimp only [↓gp, gq, reduceCtorEq, Nat.reduceEqDiff, Nat.reduceLT, Nat.reduceLeDiff, Nat.reduceAdd, Nat.reduceMul, Nat.reduceSub, Nat.reduceBEq, Int.reduceToNat, Int.reduceLE, Int.reduceLT, Int.reduceNeg, Nat.reduceMod, sid_ne1, sid_ne2, sid_inj, sid_mod, gT, TK.isInt, TK.agg, Array.toList, h0a, h3a, h4a, ht.top, tabC_length]
    have e : x.take i ++ [x.getD i []] = x.take (i + 1) := (take_snoc [] h).symm
    refine ⟨h, by omega, ?_⟩
    exact again_push (k := 7) (v := 1) (e := 31) (e2 := 3) (n := x.length) (i := i) (d := 20) (vd := (sa.rw 20).ver + 1) (M := x.take i) (r := x.getD i []) (by simp (maxSteps := 5000000) -dsimp only [gr, Nat.reduceEqDiff, Nat.reduceLT, Nat.reduceAdd, Nat.reduceMod, Nat.reduceBEq, sid_mod, sid_ne1, sid_ne2, sid_inj, ht.top]) (by simp; omega) (fun j hj => by simp (maxSteps := 5000000) -dsimp only [gr, Nat.reduceEqDiff, Nat.reduceLT, Nat.reduceAdd, Nat.reduceMod, Nat.reduceBEq, sid_mod, sid_ne1, sid_ne2, sid_inj, ht.row j hj]) (fun j hj => by simp (maxSteps := 5000000) -dsimp only [gr, Nat.reduceEqDiff, Nat.reduceLT, Nat.reduceAdd, Nat.reduceMod, Nat.reduceBEq, sid_mod, sid_ne1, sid_ne2, sid_inj, ht.rest j hj]) (by simp (maxSteps := 5000000) -dsimp only [gr, Nat.reduceEqDiff, Nat.reduceLT, Nat.reduceAdd, Nat.reduceMod, Nat.reduceBEq, sid_mod, sid_ne1, sid_ne2, sid_inj]) (by decide) (by decide) h (i + 1) (fun sX htX hslX hoX => (by refine ⟨?_, ?_, ?_, ⟨by omega, (e ▸ htX : TabP _ _ _ _ _ _ _ _)⟩⟩ <;> (first | (simp (maxSteps := 5000000) -dsimp only [gr, Nat.reduceEqDiff, Nat.reduceLT, Nat.reduceAdd, Nat.reduceMod, Nat.reduceBEq, sid_mod, sid_ne1, sid_ne2, sid_inj, hslX, hoX, h0a, h3a, h4a, h0a, h3a, h4a, wrap_nat h (show x.length ≤ 9223372036854775807 by omega)]; first | done | rfl | (simp; done)) | assumption | rfl))) (by first | omega | (simp only; omega) | (dsimp only; omega) | (show _ < _; simp; omega))
  · have : i = x.length := by omega
    subst this
    rw [List.take_length] at ht
    exact newPost_of ht.done rfl
theorem c_laws_toPowersN (x : Mat) (hx : x.length ≤ 1048576) (hr : ∀ r ∈ x, r.length ≤ 1048576) : ANw Try.prog 15 [.ag [int2 x]] wrapA 31 3 x := by
  refine ANw.go (rs := [.cell 2 27]) T_ok mixed Try.func15 rfl rfl rfl (by kernel_rfl) fun _ s hs hlow => ?_
  simp (maxSteps := 5000000) -dsimp only [↓gp, gq, reduceCtorEq, Nat.reduceEqDiff, Nat.reduceLT, Nat.reduceLeDiff, Nat.reduceAdd, Nat.reduceMul, Nat.reduceSub, Nat.reduceBEq, Int.reduceToNat, Int.reduceLE, Int.reduceLT, Int.reduceNeg, Nat.reduceMod, sid_ne1, sid_ne2, sid_inj, sid_mod, gT, TK.isInt, TK.agg, Array.toList, hs, hlow]
  refine askNew_of (d := 6) (c_laws_toIntSSN x hx hr) (.inl rfl) (.one (.sl _ _ _) .nil) (fun i _ => by simp (maxSteps := 5000000) -dsimp only [gr, Nat.reduceEqDiff, Nat.reduceLT, Nat.reduceAdd, Nat.reduceMod, Nat.reduceBEq, sid_mod, sid_ne1, sid_ne2, sid_inj, hlow]) fun S hS hSd hSs hSr => ?_
  have e0 : ∀ n : Nat, n = 0 → n + 1 = 1 := fun n h => by omega
  rw [e0 _ (by simp (maxSteps := 5000000) -dsimp only [gr, Nat.reduceEqDiff, Nat.reduceLT, Nat.reduceAdd, Nat.reduceMod, Nat.reduceBEq, sid_mod, sid_ne1, sid_ne2, sid_inj, hlow])] at hS hSd
  have hSd : S.sl 6 = .own 6 1 := hSd
  have u3 : S.sl 3 = .ref 3 1 0 := by rw [hSs 3 (by decide)]; simp (maxSteps := 5000000) -dsimp only [gr, Nat.reduceEqDiff, Nat.reduceLT, Nat.reduceAdd, Nat.reduceMod, Nat.reduceBEq, sid_mod, sid_ne1, sid_ne2, sid_inj]
  have u2 : S.sl 2 = .ref 2 1 0 := by rw [hSs 2 (by decide)]; simp (maxSteps := 5000000) -dsimp only [gr, Nat.reduceEqDiff, Nat.reduceLT, Nat.reduceAdd, Nat.reduceMod, Nat.reduceBEq, sid_mod, sid_ne1, sid_ne2, sid_inj]
  have w3 : S.rw 3 = ⟨1, .box 27 [.v (.slice none 0 0)]⟩ := by rw [hSr 3 (by decide)]; simp (maxSteps := 5000000) -dsimp only [gr, Nat.reduceEqDiff, Nat.reduceLT, Nat.reduceAdd, Nat.reduceMod, Nat.reduceBEq, sid_mod, sid_ne1, sid_ne2, sid_inj]
  have w2 : S.rw 2 = ⟨1, .box 27 [.v (.slice none 0 0)]⟩ := by rw [hSr 2 (by decide)]; simp (maxSteps := 5000000) -dsimp only [gr, Nat.reduceEqDiff, Nat.reduceLT, Nat.reduceAdd, Nat.reduceMod, Nat.reduceBEq, sid_mod, sid_ne1, sid_ne2, sid_inj]
  clear hSs hSr
  simp (maxSteps := 5000000) -dsimp only [↓gp, gq, reduceCtorEq, Nat.reduceEqDiff, Nat.reduceLT, Nat.reduceLeDiff, Nat.reduceAdd, Nat.reduceMul, Nat.reduceSub, Nat.reduceBEq, Int.reduceToNat, Int.reduceLE, Int.reduceLT, Int.reduceNeg, Nat.reduceMod, sid_ne1, sid_ne2, sid_inj, sid_mod, gT, TK.isInt, TK.agg, Array.toList, hSd, u3, u2, w3, w2, hS.top]
  exact newPost_of (hS.same (rw' := _) (by simp (maxSteps := 5000000) -dsimp only [gr, Nat.reduceEqDiff, Nat.reduceLT, Nat.reduceAdd, Nat.reduceMod, Nat.reduceBEq, sid_mod, sid_ne1, sid_ne2, sid_inj]) (fun j => by simp (maxSteps := 5000000) -dsimp only [gr, Nat.reduceEqDiff, Nat.reduceLT, Nat.reduceAdd, Nat.reduceMod, Nat.reduceBEq, sid_mod, sid_ne1, sid_ne2, sid_inj])) rfl
theorem c_laws_markPowers (M : Mat) (hl7 : M.length ≤ 1000000000000) (hsm : sumL M M.length ≤ 1000000000000) : AT Try.prog 21 [.ag [.own 1000000 1], int 1] 31 3 (M.map iL) ((mixM 1 M M.length).map iL) (.rv (.im (int (1 + (sumL M M.length : Int))))) := by
  refine AT.goI (rs := [.tmp 4]) T_ok mixed Try.func21 rfl rfl rfl (by kernel_rfl) (mixM_length _ _ _) fun hl s hs hlow ht => ?_
  simp (maxSteps := 5000000) -dsimp only [↓gp, gq, reduceCtorEq, Nat.reduceEqDiff, Nat.reduceLT, Nat.reduceLeDiff, Nat.reduceAdd, Nat.reduceMul, Nat.reduceSub, Nat.reduceBEq, Int.reduceToNat, Int.reduceLE, Int.reduceLT, Int.reduceNeg, Nat.reduceMod, sid_ne1, sid_ne2, sid_inj, sid_mod, gT, TK.isInt, TK.agg, Array.toList, hs, hlow, ht.top]
  refine askTabM_of (c_laws_markIntSSG M hl7 hsm) (by repeat (first | exact GiveL.nil | refine GiveL.v ?_ | refine GiveL.own 0 rfl ?_ | refine GiveL.own 1 rfl ?_ | refine GiveL.ag ?_ ?_)) (ht.same (by simp (maxSteps := 5000000) -dsimp only [gr, Nat.reduceEqDiff, Nat.reduceLT, Nat.reduceAdd, Nat.reduceMod, Nat.reduceBEq, sid_mod, sid_ne1, sid_ne2, sid_inj]) (fun j => by simp (maxSteps := 5000000) -dsimp only [gr, Nat.reduceEqDiff, Nat.reduceLT, Nat.reduceAdd, Nat.reduceMod, Nat.reduceBEq, sid_mod, sid_ne1, sid_ne2, sid_inj])) (mixM_length 1 M M.length) (by decide) fun S q hS hql hSd hs2 hr2 => ?_
  simp (maxSteps := 5000000) -dsimp only [↓gp, gq, reduceCtorEq, Nat.reduceEqDiff, Nat.reduceLT, Nat.reduceLeDiff, Nat.reduceAdd, Nat.reduceMul, Nat.reduceSub, Nat.reduceBEq, Int.reduceToNat, Int.reduceLE, Int.reduceLT, Int.reduceNeg, Nat.reduceMod, sid_ne1, sid_ne2, sid_inj, sid_mod, gT, TK.isInt, TK.agg, Array.toList, hSd]
  exact tabEnd_of hS hql
theorem c_laws_heldPowers (M : Mat) (hl7 : M.length ≤ 1000000000000) (hsm : sumL M M.length ≤ 1000000000000) : AC Try.prog 30 [.ag [int2 (mixM 1 M M.length)], int 1] (.im (int (1 + (sumL M M.length : Int)))) := by
  refine AC.go (rs := [.tmp 4]) T_ok mixed Try.func30 rfl rfl rfl (by kernel_rfl) fun hl => ?_
  simp (maxSteps := 5000000) -dsimp only [↓gp, gq, reduceCtorEq, Nat.reduceEqDiff, Nat.reduceLT, Nat.reduceLeDiff, Nat.reduceAdd, Nat.reduceMul, Nat.reduceSub, Nat.reduceBEq, Int.reduceToNat, Int.reduceLE, Int.reduceLT, Int.reduceNeg, Nat.reduceMod, sid_ne1, sid_ne2, sid_inj, sid_mod, gT, TK.isInt, TK.agg, Array.toList]
  refine askK_of (c_laws_heldIntSSG M hl7 hsm) ?_
  have hn : decide (1 + (sumL M M.length : Int) < 0) = false := decide_eq_false (by omega)
  simp (maxSteps := 5000000) -dsimp only [↓gp, gq, reduceCtorEq, Nat.reduceEqDiff, Nat.reduceLT, Nat.reduceLeDiff, Nat.reduceAdd, Nat.reduceMul, Nat.reduceSub, Nat.reduceBEq, Int.reduceToNat, Int.reduceLE, Int.reduceLT, Int.reduceNeg, Nat.reduceMod, sid_ne1, sid_ne2, sid_inj, sid_mod, gT, TK.isInt, TK.agg, Array.toList, hn]
end Go.Proofs.Ytnfpeinbdfmlnaa
