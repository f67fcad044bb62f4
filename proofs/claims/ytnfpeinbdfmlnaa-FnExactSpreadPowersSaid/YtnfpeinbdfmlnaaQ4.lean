/- DERIVED by an AI agent. -/
import Derived.Test.YtnfpeinbdfmlnaaQ2
import Derived.Test.YtnfpeinbdfmlnaaQ3
namespace Go.Proofs.Ytnfpeinbdfmlnaa
open Go.Abs
set_option linter.unusedSimpArgs false
set_option linter.unusedVariables false

/-- The family of a list of sets. -/
def famN (l : List Nat) : Nat := l.foldl (fun F s => F ||| 2 ^ s) 0
theorem famN_snoc (l : List Nat) (s : Nat) : famN (l ++ [s]) = famN l ||| 2 ^ s := by simp [famN]
theorem famN_bit (l : List Nat) : ∀ t, (famN l).testBit t = decide (t ∈ l) := by
  have h : ∀ (l : List Nat) (F t : Nat), (l.foldl (fun F s => F ||| 2 ^ s) F).testBit t = (F.testBit t || decide (t ∈ l)) := by
    intro l
    induction l with
    | nil => intro F t; simp
    | cons s l ih =>
      intro F t
      rw [List.foldl_cons, ih, Nat.testBit_or, Nat.testBit_two_pow]
      by_cases e : s = t
      · subst e; simp
      · have e2 : t ≠ s := fun h => e h.symm
        simp [e, e2]
  intro t
  unfold famN; rw [h]; simp
theorem famN_lt {l : List Nat} (h : ∀ s ∈ l, s < 64) : famN l < 18446744073709551616 := by
  have : famN l < 2 ^ 64 := Nat.lt_pow_two_of_testBit _ fun i hi => by
    rw [famN_bit]
    exact decide_eq_false fun hm => by have := h i hm; omega
  simpa using this
theorem c_impl_familyOf (l : List Nat) (h : ∀ s ∈ l, s < 64) (hl9 : l.length ≤ 1000000) : AC Try.prog 168 [ints (ofN l)] (.tup [.im (u64 (famN l : Nat)), .im (bool true)]) := by
  refine AC.go (rs := [.tmp 2, .tmp 3]) T_ok mixed Try.func168 rfl rfl rfl (by kernel_rfl) fun hl => ?_
  simp (maxSteps := 5000000) -dsimp only [↓gp, gq, reduceCtorEq, Nat.reduceEqDiff, Nat.reduceLT, Nat.reduceLeDiff, Nat.reduceAdd, Nat.reduceMul, Nat.reduceSub, Nat.reduceBEq, Int.reduceToNat, Int.reduceLE, Int.reduceLT, Int.reduceNeg, Nat.reduceMod, sid_ne1, sid_ne2, sid_inj, sid_mod, gT, TK.isInt, TK.agg, Array.toList]
  have hol := ofN_length l
  refine loop_of (fun (k : Nat) s => s.sl 4 = u64 (famN (l.take k) : Nat) ∧ s.sl 7 = ints (ofN l) ∧ s.sl 8 = int l.length ∧ s.sl 9 = int k ∧ (k ≤ l.length)) (fun k => l.length - k) (0) (by refine ⟨?_, ?_, ?_, ?_, by omega⟩ <;> (first | (simp (maxSteps := 5000000) -dsimp only [gr, Nat.reduceEqDiff, Nat.reduceLT, Nat.reduceAdd, Nat.reduceMod, Nat.reduceBEq, sid_mod, sid_ne1, sid_ne2, sid_inj, hol, List.take_zero]; first | done | rfl | (simp; done)) | assumption | rfl)) ?_
  intro k sa ⟨h4a, h7a, h8a, h9a, hIa⟩
  have hlt := famN_lt (l := l.take k) (fun s hs => h s (List.mem_of_mem_take hs))
  simp (maxSteps := 5000000) -dsimp only [↓gp, gq, reduceCtorEq, Nat.reduceEqDiff, Nat.reduceLT, Nat.reduceLeDiff, Nat.reduceAdd, Nat.reduceMul, Nat.reduceSub, Nat.reduceBEq, Int.reduceToNat, Int.reduceLE, Int.reduceLT, Int.reduceNeg, Nat.reduceMod, sid_ne1, sid_ne2, sid_inj, sid_mod, gT, TK.isInt, TK.agg, Array.toList, h4a, h7a, h8a, h9a, hol]
  refine ⟨fun hk => ⟨hk, hk, ?_⟩, fun hk => ?_⟩
  · have hgd := ofN_getD hk
    have hs := h _ (getD_mem 0 hk)
    have hin : inSet 6 ((l.getD k 0 : Nat) : Int) = true := by unfold inSet; exact decide_eq_true ⟨by omega, by omega, by omega, by simpa using (by omega : ((l.getD k 0 : Nat) : Int) < 64)⟩
    have huk : IntKind.u64.wrap ((l.getD k 0 : Nat) : Int) = ((l.getD k 0 : Nat) : Int) := uwrap_id (by omega)
    have h2s : (2 : Nat) ^ (l.getD k 0) < 18446744073709551616 := by
      have : (2 : Nat) ^ (l.getD k 0) < 2 ^ 64 := Nat.pow_lt_pow_right (by omega) (by omega)
      omega
    have hor : ior .u64 (famN (l.take k) : Nat) (ishl .u64 1 ((l.getD k 0 : Nat) : Int)) = ((famN (l.take (k + 1)) : Nat) : Int) := by
      rw [ishl_u (by omega), ior_u (by omega) h2s, take_snoc 0 hk, famN_snoc]
    rw [hgd]
    refine askK_of (c_impl_IsSet _ _) ?_
    rw [hin]
    simp (maxSteps := 5000000) -dsimp only [↓gp, gq, reduceCtorEq, Nat.reduceEqDiff, Nat.reduceLT, Nat.reduceLeDiff, Nat.reduceAdd, Nat.reduceMul, Nat.reduceSub, Nat.reduceBEq, Int.reduceToNat, Int.reduceLE, Int.reduceLT, Int.reduceNeg, Nat.reduceMod, sid_ne1, sid_ne2, sid_inj, sid_mod, gT, TK.isInt, TK.agg, Array.toList, h4a, h7a, h8a, h9a, hol, hgd, huk, hor]
    exact again_of (k + 1) (by refine ⟨?_, ?_, ?_, ?_, by omega⟩ <;> (first | (simp (maxSteps := 5000000) -dsimp only [gr, Nat.reduceEqDiff, Nat.reduceLT, Nat.reduceAdd, Nat.reduceMod, Nat.reduceBEq, sid_mod, sid_ne1, sid_ne2, sid_inj, h4a, h7a, h8a, h9a, wrap_nat hk (by omega), hor]; first | done | rfl | (simp; done)) | assumption | rfl)) (by first | omega | (simp only; omega) | (dsimp only; omega) | (show _ < _; simp; omega))
  · have : k = l.length := by omega
    rw [this, List.take_length]
theorem c_impl_MinimalSets (l : List Nat) (h : ∀ s ∈ l, s < 64) (hl9 : l.length ≤ 1000000) : AC Try.prog 114 [ints (ofN l)] (.fr 3 1 (iL (ofN (extN (inF (ofN l)) false)))) := by
  refine AC.go (rs := [.tmp 2]) T_ok mixed Try.func114 rfl rfl rfl (by kernel_rfl) fun hl => ?_
  simp (maxSteps := 5000000) -dsimp only [↓gp, gq, reduceCtorEq, Nat.reduceEqDiff, Nat.reduceLT, Nat.reduceLeDiff, Nat.reduceAdd, Nat.reduceMul, Nat.reduceSub, Nat.reduceBEq, Int.reduceToNat, Int.reduceLE, Int.reduceLT, Int.reduceNeg, Nat.reduceMod, sid_ne1, sid_ne2, sid_inj, sid_mod, gT, TK.isInt, TK.agg, Array.toList]
  refine askK_of (c_impl_familyOf l h hl9) ?_
  simp (maxSteps := 5000000) -dsimp only [↓gp, gq, reduceCtorEq, Nat.reduceEqDiff, Nat.reduceLT, Nat.reduceLeDiff, Nat.reduceAdd, Nat.reduceMul, Nat.reduceSub, Nat.reduceBEq, Int.reduceToNat, Int.reduceLE, Int.reduceLT, Int.reduceNeg, Nat.reduceMod, sid_ne1, sid_ne2, sid_inj, sid_mod, gT, TK.isInt, TK.agg, Array.toList]
  refine askK_of (c_impl_minimalIn (famN l) (famN_lt h)) ?_
  simp (maxSteps := 5000000) -dsimp only [↓gp, gq, reduceCtorEq, Nat.reduceEqDiff, Nat.reduceLT, Nat.reduceLeDiff, Nat.reduceAdd, Nat.reduceMul, Nat.reduceSub, Nat.reduceBEq, Int.reduceToNat, Int.reduceLE, Int.reduceLT, Int.reduceNeg, Nat.reduceMod, sid_ne1, sid_ne2, sid_inj, sid_mod, gT, TK.isInt, TK.agg, Array.toList]
  have : (famN l).testBit = inF (ofN l) := by
    funext t
    rw [famN_bit]
    unfold inF ofN
    simp
    exact ⟨fun h => ⟨t, h, rfl⟩, fun ⟨a, ha, e⟩ => by rwa [show a = t by omega] at ha⟩
  rw [this]
theorem c_impl_MakeIdeal (l : List Nat) (h : ∀ s ∈ l, s < 64) (hl9 : l.length ≤ 64) : AC Try.prog 73 [int 6, ints (ofN l)] (.tup [.ag [.im (int 6), .fr 3 1 (iL (ofN (extN (inF (ofN l)) false)))], .im (bool true)]) := by
  refine AC.go (rs := [.cell 4 43, .tmp 5]) T_ok mixed Try.func73 rfl rfl rfl (by kernel_rfl) fun hl => ?_
  simp (maxSteps := 5000000) -dsimp only [↓gp, gq, reduceCtorEq, Nat.reduceEqDiff, Nat.reduceLT, Nat.reduceLeDiff, Nat.reduceAdd, Nat.reduceMul, Nat.reduceSub, Nat.reduceBEq, Int.reduceToNat, Int.reduceLE, Int.reduceLT, Int.reduceNeg, Nat.reduceMod, sid_ne1, sid_ne2, sid_inj, sid_mod, gT, TK.isInt, TK.agg, Array.toList]
  refine askK_of (c_impl_areSetsOf 6 (ofN l)) ?_
  have hd : decide (1 ≤ (6 : Int) ∧ (6 : Int) ≤ 6 ∧ (ofN l).length ≤ 64 ∧ ∀ x ∈ ofN l, inSet 6 x = true) = true := by
    refine decide_eq_true ⟨by omega, by omega, by rw [ofN_length]; exact hl9, fun x hx => ?_⟩
    obtain ⟨s, hs, rfl⟩ := List.mem_map.1 hx
    have := h s hs
    unfold inSet; exact decide_eq_true ⟨by omega, by omega, by omega, by simpa using (by omega : (s : Int) < 64)⟩
  rw [hd]
  simp (maxSteps := 5000000) -dsimp only [↓gp, gq, reduceCtorEq, Nat.reduceEqDiff, Nat.reduceLT, Nat.reduceLeDiff, Nat.reduceAdd, Nat.reduceMul, Nat.reduceSub, Nat.reduceBEq, Int.reduceToNat, Int.reduceLE, Int.reduceLT, Int.reduceNeg, Nat.reduceMod, sid_ne1, sid_ne2, sid_inj, sid_mod, gT, TK.isInt, TK.agg, Array.toList]
  refine askK_of (c_impl_MinimalSets l h (by omega)) ?_
  simp (maxSteps := 5000000) -dsimp only [↓gp, gq, reduceCtorEq, Nat.reduceEqDiff, Nat.reduceLT, Nat.reduceLeDiff, Nat.reduceAdd, Nat.reduceMul, Nat.reduceSub, Nat.reduceBEq, Int.reduceToNat, Int.reduceLE, Int.reduceLT, Int.reduceNeg, Nat.reduceMod, sid_ne1, sid_ne2, sid_inj, sid_mod, gT, TK.isInt, TK.agg, Array.toList]
theorem c_spec_l29Make (l : List Nat) (h : ∀ s ∈ l, s < 64) : AC Try.prog 72 [int 6, ints (ofN l)] (.ag [.im (int 6), .fr 3 1 (iL (ofN (extN (inF (ofN l)) false)))]) := by
  refine AC.go (rs := [.cell 4 43]) T_ok mixed Try.func72 rfl rfl rfl (by kernel_rfl) fun hl => ?_
  simp (maxSteps := 5000000) -dsimp only [↓gp, gq, reduceCtorEq, Nat.reduceEqDiff, Nat.reduceLT, Nat.reduceLeDiff, Nat.reduceAdd, Nat.reduceMul, Nat.reduceSub, Nat.reduceBEq, Int.reduceToNat, Int.reduceLE, Int.reduceLT, Int.reduceNeg, Nat.reduceMod, sid_ne1, sid_ne2, sid_inj, sid_mod, gT, TK.isInt, TK.agg, Array.toList]
  refine askK_of (c_spec_l2Extreme false (ofN l) fun x hx => ?_) ?_
  · obtain ⟨s, hs, rfl⟩ := List.mem_map.1 hx
    have := h s hs
    omega
  · simp (maxSteps := 5000000) -dsimp only [↓gp, gq, reduceCtorEq, Nat.reduceEqDiff, Nat.reduceLT, Nat.reduceLeDiff, Nat.reduceAdd, Nat.reduceMul, Nat.reduceSub, Nat.reduceBEq, Int.reduceToNat, Int.reduceLE, Int.reduceLT, Int.reduceNeg, Nat.reduceMod, sid_ne1, sid_ne2, sid_inj, sid_mod, gT, TK.isInt, TK.agg, Array.toList]
/-- The points of the first exponents, spread. -/
def sprN (r : List Int) : Nat → Nat | 0 => 0 | i + 1 => sprN r i + (2 ^ (r.getD i 0).toNat - 1) * 4 ^ i
theorem sprN_lt {r : List Int} (h : isPow r = true) : ∀ i, i ≤ 3 → sprN r i < 4 ^ i := by
  intro i
  induction i with
  | zero => intro _; simp [sprN]
  | succ i ih =>
    intro hi
    have h1 := ih (by omega)
    have h2 := isPow_bd h (j := i) (by omega)
    rw [sprN, Nat.pow_succ]
    have h3 : (2 ^ (r.getD i 0).toNat - 1) ≤ 3 := by
      have : 2 ^ (r.getD i 0).toNat ≤ 2 ^ 2 := Nat.pow_le_pow_right (by omega) (by omega)
      omega
    have h4 := Nat.mul_le_mul_right (4 ^ i) h3
    omega
theorem spr_s : ∀ e, e < 3 → ∀ i, i < 3 → ishl .i64 (IntKind.i64.wrap (ishl .i64 1 (e : Nat) - 1)) (IntKind.u64.wrap (IntKind.i64.wrap (2 * (i : Nat)))) = (((2 ^ e - 1) * 4 ^ i : Nat) : Int) := by decide
theorem spr_1 : ∀ i, i < 3 → ∀ s, s < 16 → s < 4 ^ i → ior .i64 (s : Nat) (ishl .i64 1 (IntKind.u64.wrap (IntKind.i64.wrap (2 * (i : Nat))))) = ((s + 4 ^ i : Nat) : Int) := by decide +kernel
theorem spr_2 : ∀ i, i < 3 → ∀ s, s < 16 → s < 4 ^ i → ior .i64 (s + 4 ^ i : Nat) (ishl .i64 1 (IntKind.u64.wrap (IntKind.i64.wrap (IntKind.i64.wrap (2 * (i : Nat)) + 1)))) = ((s + 3 * 4 ^ i : Nat) : Int) := by decide +kernel
def sprL (x : List (List Int)) : List Nat := x.map fun r => sprN r 3
theorem sprL_len (x : List (List Int)) : (sprL x).length = x.length := by simp [sprL]
theorem sprL_snoc {x : List (List Int)} {k : Nat} (h : k < x.length) : sprL (x.take (k + 1)) = sprL (x.take k) ++ [sprN (x.getD k []) 3] := by rw [take_snoc [] h]; simp [sprL]
noncomputable def spV (x : List (List Int)) : List Nat := if p19 x = true then extN (inF (ofN (sprL x))) false else []
noncomputable def spO (x : List (List Int)) : Int := if p19 x = true then 6 else 0
theorem c_spec_SpreadPowers (x : List (List Int)) : AC Try.prog 31 [.ag [int2 x]] (.tup [.ag [.im (int (spO x)), .fr 3 1 (iL (ofN (spV x)))], .im (bool (p19 x))]) := by
  refine AC.go (rs := [.cell 2 43, .tmp 3]) T_ok mixed Try.func31 rfl rfl rfl (by kernel_rfl) fun hl => ?_
  simp only [lens_cons, lens_nil, and_true, lens2, List.mem_singleton, forall_eq, lens1_iLL] at hl
  simp (maxSteps := 5000000) -dsimp only [↓gp, gq, reduceCtorEq, Nat.reduceEqDiff, Nat.reduceLT, Nat.reduceLeDiff, Nat.reduceAdd, Nat.reduceMul, Nat.reduceSub, Nat.reduceBEq, Int.reduceToNat, Int.reduceLE, Int.reduceLT, Int.reduceNeg, Nat.reduceMod, sid_ne1, sid_ne2, sid_inj, sid_mod, gT, TK.isInt, TK.agg, Array.toList]
  refine askK_of (c_spec_ArePowers x) ?_
  simp (maxSteps := 5000000) -dsimp only [↓gp, gq, reduceCtorEq, Nat.reduceEqDiff, Nat.reduceLT, Nat.reduceLeDiff, Nat.reduceAdd, Nat.reduceMul, Nat.reduceSub, Nat.reduceBEq, Int.reduceToNat, Int.reduceLE, Int.reduceLT, Int.reduceNeg, Nat.reduceMod, sid_ne1, sid_ne2, sid_inj, sid_mod, gT, TK.isInt, TK.agg, Array.toList]
  refine ⟨fun hp => ?_, fun hp => ?_⟩
  · have hp : p19 x = false := by simpa using hp
    rw [spV, spO, hp]; exact ⟨rfl, rfl, rfl⟩
  · have hp : p19 x = true := by simpa using hp
    obtain ⟨hok, hx5⟩ := p19_all hp
    have hz : ofN (sprL (x.take 0)) = [] := rfl
    refine loop_of (fun (za : Nat × Nat) s => match za with | (k, v) => s.sl 1 = .ref 1 1 0 ∧ s.rw 1 = ⟨1, .box 27 [int2 x]⟩ ∧ s.sl 2 = .ref 2 1 0 ∧ s.rw 2 = ⟨1, .box 43 [int 0, .v (.slice none 0 0)]⟩ ∧ s.sl 4 = .own 12 v ∧ s.rw 12 = ⟨v, .sli 3 1 false (iL (ofN (sprL (x.take k))))⟩ ∧ s.sl 5 = int k ∧ (k ≤ x.length)) (fun (k, v) => x.length - k) ((0, 1)) (by refine ⟨?_, ?_, ?_, ?_, ?_, ?_, ?_, by omega⟩ <;> (first | (simp (maxSteps := 5000000) -dsimp only [gr, Nat.reduceEqDiff, Nat.reduceLT, Nat.reduceAdd, Nat.reduceMod, Nat.reduceBEq, sid_mod, sid_ne1, sid_ne2, sid_inj, hz]; first | done | rfl | (simp; done)) | assumption | rfl)) ?_
    intro (k, v) sa ⟨h1a, r1a, h2a, r2a, h4a, r12a, h5a, hIa⟩
    simp (maxSteps := 5000000) -dsimp only [↓gp, gq, reduceCtorEq, Nat.reduceEqDiff, Nat.reduceLT, Nat.reduceLeDiff, Nat.reduceAdd, Nat.reduceMul, Nat.reduceSub, Nat.reduceBEq, Int.reduceToNat, Int.reduceLE, Int.reduceLT, Int.reduceNeg, Nat.reduceMod, sid_ne1, sid_ne2, sid_inj, sid_mod, gT, TK.isInt, TK.agg, Array.toList, h1a, r1a, h2a, r2a, h4a, r12a, h5a]
    refine ⟨fun hk => ?_, fun hk => ?_⟩
    · have hpk := (hok k hk).1
      have hr3 := isPow_3 hpk
      refine loop_of (fun (i : Nat) s => s.sl 1 = .ref 1 1 0 ∧ s.rw 1 = ⟨1, .box 27 [int2 x]⟩ ∧ s.sl 2 = .ref 2 1 0 ∧ s.rw 2 = ⟨1, .box 43 [int 0, .v (.slice none 0 0)]⟩ ∧ s.sl 4 = .own 12 v ∧ s.rw 12 = ⟨v, .sli 3 1 false (iL (ofN (sprL (x.take k))))⟩ ∧ s.sl 5 = int k ∧ s.sl 6 = int (sprN (x.getD k []) i) ∧ s.sl 7 = int i ∧ (i ≤ 3)) (fun i => 3 - i) (0) (by refine ⟨?_, ?_, ?_, ?_, ?_, ?_, ?_, ?_, ?_, by omega⟩ <;> (first | (simp (maxSteps := 5000000) -dsimp only [gr, Nat.reduceEqDiff, Nat.reduceLT, Nat.reduceAdd, Nat.reduceMod, Nat.reduceBEq, sid_mod, sid_ne1, sid_ne2, sid_inj, h1a, r1a, h2a, r2a, h4a, r12a, h5a, sprN]; first | done | rfl | (simp; done)) | assumption | rfl)) ?_
      intro i sb ⟨h1b, r1b, h2b, r2b, h4b, r12b, h5b, h6b, h7b, hIb⟩
      by_cases hi : i < 3
      · have hb := isPow_bd hpk (j := i) hi
        obtain ⟨e, he⟩ : ∃ e : Nat, (x.getD k []).getD i 0 = e := ⟨((x.getD k []).getD i 0).toNat, by omega⟩
        have hss := spr_s e (by omega) i hi
        have hue : IntKind.u64.wrap (e : Int) = (e : Int) := uwrap_id (by omega)
        have hn2 : 0 ≤ IntKind.u64.wrap (IntKind.i64.wrap (2 * (i : Int))) := by
          rw [wrap_id (by omega) (by omega)]
          have := uwrap_id (a := 2 * i) (by omega)
          rw [show ((2 * i : Nat) : Int) = 2 * (i : Int) by omega] at this
          rw [this]; omega
        have hlt := sprN_lt hpk i (by omega)
        have h4 : 4 ^ i ≤ 16 := by
          have : 4 ^ i ≤ 4 ^ 2 := Nat.pow_le_pow_right (by omega) (by omega)
          omega
        have hlt2 := sprN_lt hpk (i + 1) (by omega)
        have h42 : 4 ^ (i + 1) ≤ 64 := by
          have : 4 ^ (i + 1) ≤ 4 ^ 3 := Nat.pow_le_pow_right (by omega) (by omega)
          omega
        have hst : sprN (x.getD k []) (i + 1) = sprN (x.getD k []) i + (2 ^ e - 1) * 4 ^ i := by rw [sprN, he, Int.toNat_natCast]
        have hw : IntKind.i64.wrap (((sprN (x.getD k []) i : Nat) : Int) + (((2 ^ e - 1) * 4 ^ i : Nat) : Int)) = ((sprN (x.getD k []) (i + 1) : Nat) : Int) := by
          rw [← Int.natCast_add, ← hst, wrap_id (by omega) (by omega)]
        simp (maxSteps := 5000000) -dsimp only [↓gp, gq, reduceCtorEq, Nat.reduceEqDiff, Nat.reduceLT, Nat.reduceLeDiff, Nat.reduceAdd, Nat.reduceMul, Nat.reduceSub, Nat.reduceBEq, Int.reduceToNat, Int.reduceLE, Int.reduceLT, Int.reduceNeg, Nat.reduceMod, sid_ne1, sid_ne2, sid_inj, sid_mod, gT, TK.isInt, TK.agg, Array.toList, h1b, r1b, h2b, r2b, h4b, r12b, h5b, h6b, h7b, he, hue, hss, hw]
        exact ⟨fun _ => ⟨hk, hk, by omega, by omega, hn2, again_of (i + 1) (by refine ⟨?_, ?_, ?_, ?_, ?_, ?_, ?_, ?_, ?_, by omega⟩ <;> (first | (simp (maxSteps := 5000000) -dsimp only [gr, Nat.reduceEqDiff, Nat.reduceLT, Nat.reduceAdd, Nat.reduceMod, Nat.reduceBEq, sid_mod, sid_ne1, sid_ne2, sid_inj, h1b, r1b, h2b, r2b, h4b, r12b, h5b, h6b, h7b, hw, wrap_nat hi (by omega)]; first | done | rfl | (simp; done)) | assumption | rfl)) (by first | omega | (simp only; omega) | (dsimp only; omega) | (show _ < _; simp; omega))⟩, fun h => absurd (by omega) h⟩
      · have hi3 : i = 3 := by omega
        subst hi3
        have hs := sprL_snoc hk
        have hsn : ofN (sprL (x.take (k + 1))) = ofN (sprL (x.take k)) ++ [((sprN (x.getD k []) 3 : Nat) : Int)] := by rw [hs, ofN_append, ofN_one]
        simp (maxSteps := 5000000) -dsimp only [↓gp, gq, reduceCtorEq, Nat.reduceEqDiff, Nat.reduceLT, Nat.reduceLeDiff, Nat.reduceAdd, Nat.reduceMul, Nat.reduceSub, Nat.reduceBEq, Int.reduceToNat, Int.reduceLE, Int.reduceLT, Int.reduceNeg, Nat.reduceMod, sid_ne1, sid_ne2, sid_inj, sid_mod, gT, TK.isInt, TK.agg, Array.toList, h1b, r1b, h2b, r2b, h4b, r12b, h5b, h6b, h7b]
        refine ⟨fun h => absurd h (by decide), fun _ => ⟨by rw [ofN_length, sprL_len, List.length_take]; omega, again_of ((k + 1, v + 1)) (by refine ⟨?_, ?_, ?_, ?_, ?_, ?_, ?_, by dsimp only; omega⟩ <;> (first | (simp (maxSteps := 5000000) -dsimp only [gr, Nat.reduceEqDiff, Nat.reduceLT, Nat.reduceAdd, Nat.reduceMod, Nat.reduceBEq, sid_mod, sid_ne1, sid_ne2, sid_inj, h1a, r1a, h2a, r2a, h4a, r12a, h5a, h1b, r1b, h2b, r2b, h4b, r12b, h5b, h6b, h7b, hsn, wrap_nat hk (show x.length ≤ 9223372036854775807 by omega)]; first | done | rfl | (simp; done)) | assumption | rfl)) (by first | omega | (simp only; omega) | (dsimp only; omega) | (show _ < _; simp; omega))⟩⟩
    · have hkl : k = x.length := by omega
      subst hkl
      rw [List.take_length]
      refine askK_of (c_spec_l29Make (sprL x) fun s hs => ?_) ?_
      · obtain ⟨r, hr, rfl⟩ := List.mem_map.1 hs
        obtain ⟨j, hj, rfl⟩ := List.getElem_of_mem hr
        have hpj := (hok j hj).1
        have e1 : x.getD j [] = x[j] := by simp [List.getD, hj]
        rw [e1] at hpj
        exact sprN_lt hpj 3 (by omega)
      · simp (maxSteps := 5000000) -dsimp only [↓gp, gq, reduceCtorEq, Nat.reduceEqDiff, Nat.reduceLT, Nat.reduceLeDiff, Nat.reduceAdd, Nat.reduceMul, Nat.reduceSub, Nat.reduceBEq, Int.reduceToNat, Int.reduceLE, Int.reduceLT, Int.reduceNeg, Nat.reduceMod, sid_ne1, sid_ne2, sid_inj, sid_mod, gT, TK.isInt, TK.agg, Array.toList, h1a, r1a, h2a, r2a, h4a, r12a, h5a]
        rw [spV, spO, hp]; exact ⟨rfl, rfl, rfl⟩
theorem c_impl_SpreadPowers (x : List (List Int)) : AC Try.prog 32 [.ag [int2 x]] (.tup [.ag [.im (int (spO x)), .fr 3 1 (iL (ofN (spV x)))], .im (bool (p19 x))]) := by
  refine AC.go (rs := [.cell 2 43, .tmp 3]) T_ok mixed Try.func32 rfl rfl rfl (by kernel_rfl) fun hl => ?_
  simp only [lens_cons, lens_nil, and_true, lens2, List.mem_singleton, forall_eq, lens1_iLL] at hl
  simp (maxSteps := 5000000) -dsimp only [↓gp, gq, reduceCtorEq, Nat.reduceEqDiff, Nat.reduceLT, Nat.reduceLeDiff, Nat.reduceAdd, Nat.reduceMul, Nat.reduceSub, Nat.reduceBEq, Int.reduceToNat, Int.reduceLE, Int.reduceLT, Int.reduceNeg, Nat.reduceMod, sid_ne1, sid_ne2, sid_inj, sid_mod, gT, TK.isInt, TK.agg, Array.toList]
  refine askK_of (c_impl_ArePowers x) ?_
  rw [← p19_21]
  simp (maxSteps := 5000000) -dsimp only [↓gp, gq, reduceCtorEq, Nat.reduceEqDiff, Nat.reduceLT, Nat.reduceLeDiff, Nat.reduceAdd, Nat.reduceMul, Nat.reduceSub, Nat.reduceBEq, Int.reduceToNat, Int.reduceLE, Int.reduceLT, Int.reduceNeg, Nat.reduceMod, sid_ne1, sid_ne2, sid_inj, sid_mod, gT, TK.isInt, TK.agg, Array.toList]
  refine ⟨fun hp => ?_, fun hp => ?_⟩
  · have hp : p19 x = false := by simpa using hp
    rw [spV, spO, hp]; exact ⟨rfl, rfl, rfl⟩
  · have hp : p19 x = true := by simpa using hp
    obtain ⟨hok, hx5⟩ := p19_all hp
    have hz : ofN (sprL (x.take 0)) = [] := rfl
    refine loop_of (fun (za : Nat × Nat) s => match za with | (k, v) => s.sl 1 = .ref 1 1 0 ∧ s.rw 1 = ⟨1, .box 27 [int2 x]⟩ ∧ s.sl 2 = .ref 2 1 0 ∧ s.rw 2 = ⟨1, .box 43 [int 0, .v (.slice none 0 0)]⟩ ∧ s.sl 4 = .own 4 v ∧ s.rw 4 = ⟨v, .sli 3 1 false (iL (ofN (sprL (x.take k))))⟩ ∧ s.sl 15 = int2 x ∧ s.sl 16 = int x.length ∧ s.sl 17 = int k ∧ (k ≤ x.length)) (fun (k, v) => x.length - k) ((0, 1)) (by refine ⟨?_, ?_, ?_, ?_, ?_, ?_, ?_, ?_, ?_, by omega⟩ <;> (first | (simp (maxSteps := 5000000) -dsimp only [gr, Nat.reduceEqDiff, Nat.reduceLT, Nat.reduceAdd, Nat.reduceMod, Nat.reduceBEq, sid_mod, sid_ne1, sid_ne2, sid_inj, hz]; first | done | rfl | (simp; done)) | assumption | rfl)) ?_
    intro (k, v) sa ⟨h1a, r1a, h2a, r2a, h4a, r4a, h15a, h16a, h17a, hIa⟩
    simp (maxSteps := 5000000) -dsimp only [↓gp, gq, reduceCtorEq, Nat.reduceEqDiff, Nat.reduceLT, Nat.reduceLeDiff, Nat.reduceAdd, Nat.reduceMul, Nat.reduceSub, Nat.reduceBEq, Int.reduceToNat, Int.reduceLE, Int.reduceLT, Int.reduceNeg, Nat.reduceMod, sid_ne1, sid_ne2, sid_inj, sid_mod, gT, TK.isInt, TK.agg, Array.toList, h1a, r1a, h2a, r2a, h4a, r4a, h15a, h16a, h17a]
    refine ⟨fun hk => ?_, fun hk => ?_⟩
    · have hpk := (hok k hk).1
      have hr3 := isPow_3 hpk
      refine ⟨hk, hk, ?_⟩
      refine loop_of (fun (i : Nat) s => s.sl 1 = .ref 1 1 0 ∧ s.rw 1 = ⟨1, .box 27 [int2 x]⟩ ∧ s.sl 2 = .ref 2 1 0 ∧ s.rw 2 = ⟨1, .box 43 [int 0, .v (.slice none 0 0)]⟩ ∧ s.sl 4 = .own 4 v ∧ s.rw 4 = ⟨v, .sli 3 1 false (iL (ofN (sprL (x.take k))))⟩ ∧ s.sl 15 = int2 x ∧ s.sl 16 = int x.length ∧ s.sl 17 = int k ∧ s.sl 7 = int (sprN (x.getD k []) i) ∧ s.sl 21 = ints (x.getD k []) ∧ s.sl 22 = int 3 ∧ s.sl 23 = int i ∧ (i ≤ 3)) (fun i => 3 - i) (0) (by refine ⟨?_, ?_, ?_, ?_, ?_, ?_, ?_, ?_, ?_, ?_, ?_, ?_, ?_, by omega⟩ <;> (first | (simp (maxSteps := 5000000) -dsimp only [gr, Nat.reduceEqDiff, Nat.reduceLT, Nat.reduceAdd, Nat.reduceMod, Nat.reduceBEq, sid_mod, sid_ne1, sid_ne2, sid_inj, h1a, r1a, h2a, r2a, h4a, r4a, h15a, h16a, h17a, sprN, hr3]; first | done | rfl | (simp; done)) | assumption | rfl)) ?_
      intro i sb ⟨h1b, r1b, h2b, r2b, h4b, r4b, h15b, h16b, h17b, h7b, h21b, h22b, h23b, hIb⟩
      by_cases hi : i < 3
      · have hb := isPow_bd hpk (j := i) hi
        obtain ⟨e, he⟩ : ∃ e : Nat, (x.getD k []).getD i 0 = e := ⟨((x.getD k []).getD i 0).toNat, by omega⟩
        have hn2 : 0 ≤ IntKind.u64.wrap (IntKind.i64.wrap (2 * (i : Int))) := by
          rw [wrap_id (by omega) (by omega)]
          have := uwrap_id (a := 2 * i) (by omega)
          rw [show ((2 * i : Nat) : Int) = 2 * (i : Int) by omega] at this
          rw [this]; omega
        have hlt := sprN_lt hpk i (by omega)
        have h4 : 4 ^ i ≤ 16 := by
          have : 4 ^ i ≤ 4 ^ 2 := Nat.pow_le_pow_right (by omega) (by omega)
          omega
        have h1 := spr_1 i hi (sprN (x.getD k []) i) (by omega) hlt
        have h2 := spr_2 i hi (sprN (x.getD k []) i) (by omega) hlt
        have hst : sprN (x.getD k []) (i + 1) = sprN (x.getD k []) i + (2 ^ e - 1) * 4 ^ i := by rw [sprN, he, Int.toNat_natCast]
        have hn3 : 0 ≤ IntKind.u64.wrap (IntKind.i64.wrap (IntKind.i64.wrap (2 * (i : Int)) + 1)) := by
          rw [wrap_id (n := 2 * (i : Int)) (by omega) (by omega), wrap_id (by omega) (by omega)]
          have := uwrap_id (a := 2 * i + 1) (by omega)
          rw [show ((2 * i + 1 : Nat) : Int) = 2 * (i : Int) + 1 by omega] at this
          rw [this]; omega
        simp (maxSteps := 5000000) -dsimp only [↓gp, gq, reduceCtorEq, Nat.reduceEqDiff, Nat.reduceLT, Nat.reduceLeDiff, Nat.reduceAdd, Nat.reduceMul, Nat.reduceSub, Nat.reduceBEq, Int.reduceToNat, Int.reduceLE, Int.reduceLT, Int.reduceNeg, Nat.reduceMod, sid_ne1, sid_ne2, sid_inj, sid_mod, gT, TK.isInt, TK.agg, Array.toList, h1b, r1b, h2b, r2b, h4b, r4b, h15b, h16b, h17b, h7b, h21b, h22b, h23b, he, h1, h2]
        refine ⟨fun _ => ⟨by omega, by omega, fun h3 => ⟨hn2, fun h4 => ⟨hn3, ?_⟩, fun h4 => ?_⟩, fun h3 => ⟨fun h4 => ?_, fun h4 => ?_⟩⟩, fun h => absurd (by omega) h⟩
        · have e2 : e = 2 := by
            have : (e : Int) = 2 := by simpa using h4
            omega
          subst e2
          exact again_of (i + 1) (by refine ⟨?_, ?_, ?_, ?_, ?_, ?_, ?_, ?_, ?_, ?_, ?_, ?_, ?_, by omega⟩ <;> (first | (simp (maxSteps := 5000000) -dsimp only [gr, Nat.reduceEqDiff, Nat.reduceLT, Nat.reduceAdd, Nat.reduceMod, Nat.reduceBEq, sid_mod, sid_ne1, sid_ne2, sid_inj, h1b, r1b, h2b, r2b, h4b, r4b, h15b, h16b, h17b, h7b, h21b, h22b, h23b, hst, wrap_nat hi (by omega)]; first | done | rfl | (simp; done)) | assumption | rfl)) (by first | omega | (simp only; omega) | (dsimp only; omega) | (show _ < _; simp; omega))
        · have e2 : e = 1 := by
            have : ¬ (e : Int) = 2 := by simpa using h4
            omega
          subst e2
          have e3 : (2 ^ 1 - 1) * 4 ^ i = 4 ^ i := by omega
          rw [e3] at hst
          exact again_of (i + 1) (by refine ⟨?_, ?_, ?_, ?_, ?_, ?_, ?_, ?_, ?_, ?_, ?_, ?_, ?_, by omega⟩ <;> (first | (simp (maxSteps := 5000000) -dsimp only [gr, Nat.reduceEqDiff, Nat.reduceLT, Nat.reduceAdd, Nat.reduceMod, Nat.reduceBEq, sid_mod, sid_ne1, sid_ne2, sid_inj, h1b, r1b, h2b, r2b, h4b, r4b, h15b, h16b, h17b, h7b, h21b, h22b, h23b, hst, wrap_nat hi (by omega)]; first | done | rfl | (simp; done)) | assumption | rfl)) (by first | omega | (simp only; omega) | (dsimp only; omega) | (show _ < _; simp; omega))
        · have : (e : Int) = 2 := by simpa using h4
          omega
        · have e2 : e = 0 := by omega
          subst e2
          have e3 : (2 ^ 0 - 1) * 4 ^ i = 0 := by omega
          rw [e3, Nat.add_zero] at hst
          exact again_of (i + 1) (by refine ⟨?_, ?_, ?_, ?_, ?_, ?_, ?_, ?_, ?_, ?_, ?_, ?_, ?_, by omega⟩ <;> (first | (simp (maxSteps := 5000000) -dsimp only [gr, Nat.reduceEqDiff, Nat.reduceLT, Nat.reduceAdd, Nat.reduceMod, Nat.reduceBEq, sid_mod, sid_ne1, sid_ne2, sid_inj, h1b, r1b, h2b, r2b, h4b, r4b, h15b, h16b, h17b, h7b, h21b, h22b, h23b, hst, wrap_nat hi (by omega)]; first | done | rfl | (simp; done)) | assumption | rfl)) (by first | omega | (simp only; omega) | (dsimp only; omega) | (show _ < _; simp; omega))
      · have hi3 : i = 3 := by omega
        subst hi3
        have hs := sprL_snoc hk
        have hsn : ofN (sprL (x.take (k + 1))) = ofN (sprL (x.take k)) ++ [((sprN (x.getD k []) 3 : Nat) : Int)] := by rw [hs, ofN_append, ofN_one]
        simp (maxSteps := 5000000) -dsimp only [↓gp, gq, reduceCtorEq, Nat.reduceEqDiff, Nat.reduceLT, Nat.reduceLeDiff, Nat.reduceAdd, Nat.reduceMul, Nat.reduceSub, Nat.reduceBEq, Int.reduceToNat, Int.reduceLE, Int.reduceLT, Int.reduceNeg, Nat.reduceMod, sid_ne1, sid_ne2, sid_inj, sid_mod, gT, TK.isInt, TK.agg, Array.toList, h1b, r1b, h2b, r2b, h4b, r4b, h15b, h16b, h17b, h7b, h21b, h22b, h23b]
        refine ⟨fun h => absurd h (by decide), fun _ => ⟨by rw [ofN_length, sprL_len, List.length_take]; omega, again_of ((k + 1, v + 1)) (by refine ⟨?_, ?_, ?_, ?_, ?_, ?_, ?_, ?_, ?_, by dsimp only; omega⟩ <;> (first | (simp (maxSteps := 5000000) -dsimp only [gr, Nat.reduceEqDiff, Nat.reduceLT, Nat.reduceAdd, Nat.reduceMod, Nat.reduceBEq, sid_mod, sid_ne1, sid_ne2, sid_inj, h1a, r1a, h2a, r2a, h4a, r4a, h15a, h16a, h17a, h1b, r1b, h2b, r2b, h4b, r4b, h15b, h16b, h17b, h7b, h21b, h22b, h23b, hsn, wrap_nat hk (show x.length ≤ 9223372036854775807 by omega)]; first | done | rfl | (simp; done)) | assumption | rfl)) (by first | omega | (simp only; omega) | (dsimp only; omega) | (show _ < _; simp; omega))⟩⟩
    · have hkl : k = x.length := by omega
      subst hkl
      rw [List.take_length]
      refine askK_of (c_impl_MakeIdeal (sprL x) (fun s hs => ?_) (by rw [sprL_len]; omega)) ?_
      · obtain ⟨r, hr, rfl⟩ := List.mem_map.1 hs
        obtain ⟨j, hj, rfl⟩ := List.getElem_of_mem hr
        have hpj := (hok j hj).1
        have e1 : x.getD j [] = x[j] := by simp [List.getD, hj]
        rw [e1] at hpj
        exact sprN_lt hpj 3 (by omega)
      · simp (maxSteps := 5000000) -dsimp only [↓gp, gq, reduceCtorEq, Nat.reduceEqDiff, Nat.reduceLT, Nat.reduceLeDiff, Nat.reduceAdd, Nat.reduceMul, Nat.reduceSub, Nat.reduceBEq, Int.reduceToNat, Int.reduceLE, Int.reduceLT, Int.reduceNeg, Nat.reduceMod, sid_ne1, sid_ne2, sid_inj, sid_mod, gT, TK.isInt, TK.agg, Array.toList, h1a, r1a, h2a, r2a, h4a, r4a, h15a, h16a, h17a]
        rw [spV, spO, hp]; exact ⟨rfl, rfl, rfl⟩
end Go.Proofs.Ytnfpeinbdfmlnaa
