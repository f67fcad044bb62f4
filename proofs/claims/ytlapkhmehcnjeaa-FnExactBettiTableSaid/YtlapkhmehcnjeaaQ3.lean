/- DERIVED by an AI agent. -/
import Derived.Test.YtlapkhmehcnjeaaQ2
import Derived.Test.YtlapkhmehcnjeaaP1
import Derived.Test.YtlapkhmehcnjeaaQ1
namespace Go.Proofs.Ytlapkhmehcnjeaa
open Go.Abs
set_option linter.unusedSimpArgs false
set_option linter.unusedVariables false

/-- The place of a number in a list, or -1. -/
def idxOf (xs : List Int) (n : Int) : Int := if n ∈ xs then (xs.idxOf n : Nat) else -1
theorem idxOf_at {xs : List Int} {n : Int} {k : Nat} (h : k < xs.length) (he : xs.getD k 0 = n) (hall : ∀ i, i < k → xs.getD i 0 ≠ n) : idxOf xs n = k := by
  have hm : n ∈ xs := he ▸ getD_mem 0 h
  unfold idxOf
  rw [if_pos hm]
  have h1 : xs.idxOf n < xs.length := List.idxOf_lt_length_iff.2 hm
  have h2 : xs.getD (xs.idxOf n) 0 = n := by rw [getD_at 0 h1]; exact List.getElem_idxOf h1
  rcases Nat.lt_trichotomy (xs.idxOf n) k with hlt | heq | hgt
  · exact absurd h2 (hall _ hlt)
  · rw [heq]
  · have := List.not_of_lt_findIdx (p := (· == n)) (xs := xs) (i := k) hgt
    rw [getD_at 0 h] at he
    simp [he] at this
theorem c_spec_l2Before {a b : Int} (ha : 0 ≤ a ∧ a < 64) (hb : 0 ≤ b ∧ b < 64) : AC Try.prog 86 [int a, int b] (.im (bool (befS a b))) := by
  refine AC.go (rs := [.tmp 4]) T_ok mixed Try.func86 rfl rfl rfl (by kernel_rfl) fun hl => ?_
  simp (maxSteps := 5000000) -dsimp only [↓gp, gq, reduceCtorEq, Nat.reduceEqDiff, Nat.reduceLT, Nat.reduceLeDiff, Nat.reduceAdd, Nat.reduceMul, Nat.reduceSub, Nat.reduceBEq, Int.reduceToNat, Int.reduceLE, Int.reduceLT, Int.reduceNeg, Nat.reduceMod, sid_ne1, sid_ne2, sid_inj, sid_mod, gT, TK.isInt, TK.agg, Array.toList]
  refine askK_of (c_spec_l2Sizei ha.1 (by omega)) ?_
  simp (maxSteps := 5000000) -dsimp only [↓gp, gq, reduceCtorEq, Nat.reduceEqDiff, Nat.reduceLT, Nat.reduceLeDiff, Nat.reduceAdd, Nat.reduceMul, Nat.reduceSub, Nat.reduceBEq, Int.reduceToNat, Int.reduceLE, Int.reduceLT, Int.reduceNeg, Nat.reduceMod, sid_ne1, sid_ne2, sid_inj, sid_mod, gT, TK.isInt, TK.agg, Array.toList]
  refine askK_of (c_spec_l2Sizei hb.1 (by omega)) ?_
  simp (maxSteps := 5000000) -dsimp only [↓gp, gq, reduceCtorEq, Nat.reduceEqDiff, Nat.reduceLT, Nat.reduceLeDiff, Nat.reduceAdd, Nat.reduceMul, Nat.reduceSub, Nat.reduceBEq, Int.reduceToNat, Int.reduceLE, Int.reduceLT, Int.reduceNeg, Nat.reduceMod, sid_ne1, sid_ne2, sid_inj, sid_mod, gT, TK.isInt, TK.agg, Array.toList]
  unfold befS szOf
  rw [if_pos ha, if_pos hb, decide_eq_true ha, decide_eq_true hb]
  simp only [Bool.true_and]
  refine ⟨fun h => ⟨fun h2 => ?_, fun h2 => ?_⟩, fun h => ?_⟩
  · rw [if_pos (by simpa using h2)]
  · rw [if_neg (by simpa using h2)]
    exact decide_eq_false (by omega)
  · rw [if_neg (by omega)]
    exact decide_eq_true (by omega)
/-- Sets of a number of points, none within another, in order. -/
def cxAt (n : Int) (xs : List Int) (k : Nat) : Prop := inSet n (xs.getD k 0) = true ∧ (0 < k → befS (xs.getD (k - 1) 0) (xs.getD k 0) = true) ∧ ∀ i, i < k → iand .i64 (xs.getD i 0) (xs.getD k 0) ≠ xs.getD i 0
def cxP (n : Int) (xs : List Int) : Prop := 1 ≤ n ∧ n ≤ 6 ∧ ∀ k, k < xs.length → cxAt n xs k
open Classical in
noncomputable def isCx (n : Int) (xs : List Int) : Bool := decide (cxP n xs)
open Classical in
theorem isCx_no {n : Int} {xs : List Int} (h : ¬ cxP n xs) : isCx n xs = false := decide_eq_false h
open Classical in
theorem isCx_yes {n : Int} {xs : List Int} (h : cxP n xs) : isCx n xs = true := decide_eq_true h
open Classical in
theorem isCx_iff {n : Int} {xs : List Int} : isCx n xs = true ↔ cxP n xs := decide_eq_true_iff
theorem c_spec_IsComplex (n : Int) (xs : List Int) : AC Try.prog 57 [.ag [int n, ints xs]] (.im (bool (isCx n xs))) := by
  refine AC.go (rs := [.tmp 2]) T_ok mixed Try.func57 rfl rfl rfl (by kernel_rfl) fun hl => ?_
  simp only [lens_cons, lens_nil, and_true, lens2_ag2, lens1_v, lens1_iL, true_and] at hl
  simp (maxSteps := 5000000) -dsimp only [↓gp, gq, reduceCtorEq, Nat.reduceEqDiff, Nat.reduceLT, Nat.reduceLeDiff, Nat.reduceAdd, Nat.reduceMul, Nat.reduceSub, Nat.reduceBEq, Int.reduceToNat, Int.reduceLE, Int.reduceLT, Int.reduceNeg, Nat.reduceMod, sid_ne1, sid_ne2, sid_inj, sid_mod, gT, TK.isInt, TK.agg, Array.toList]
  refine loop_of (fun (k : Nat) s => s.sl 1 = .ref 1 1 0 ∧ s.rw 1 = ⟨1, .box 24 [int n, ints xs]⟩ ∧ s.sl 3 = int k ∧ (k ≤ xs.length ∧ ∀ i, i < k → cxAt n xs i)) (fun k => xs.length - k) (0) (by refine ⟨?_, ?_, ?_, by simp⟩ <;> (first | (simp (maxSteps := 5000000) -dsimp only [gr, Nat.reduceEqDiff, Nat.reduceLT, Nat.reduceAdd, Nat.reduceMod, Nat.reduceBEq, sid_mod, sid_ne1, sid_ne2, sid_inj]; first | done | rfl | (simp; done)) | assumption | rfl)) ?_
  intro k sa ⟨h1a, r1a, h3a, hIa⟩
  obtain ⟨hk, hall⟩ := hIa
  have hw : IntKind.i64.wrap ((k : Int) - 1) = (k : Int) - 1 := wrap_id (by omega) (by omega)
  simp (maxSteps := 5000000) -dsimp only [↓gp, gq, reduceCtorEq, Nat.reduceEqDiff, Nat.reduceLT, Nat.reduceLeDiff, Nat.reduceAdd, Nat.reduceMul, Nat.reduceSub, Nat.reduceBEq, Int.reduceToNat, Int.reduceLE, Int.reduceLT, Int.reduceNeg, Nat.reduceMod, sid_ne1, sid_ne2, sid_inj, sid_mod, gT, TK.isInt, TK.agg, Array.toList, h1a, r1a, h3a, hw, toNat_pred]
  refine ⟨fun h => ⟨by kernel_rfl, h, h, askK_of (c_spec_IsSet _ _) ?_⟩, fun h => askK_of (c_spec_l1In _ _ _) ?_⟩
  · simp (maxSteps := 5000000) -dsimp only [↓gp, gq, reduceCtorEq, Nat.reduceEqDiff, Nat.reduceLT, Nat.reduceLeDiff, Nat.reduceAdd, Nat.reduceMul, Nat.reduceSub, Nat.reduceBEq, Int.reduceToNat, Int.reduceLE, Int.reduceLT, Int.reduceNeg, Nat.reduceMod, sid_ne1, sid_ne2, sid_inj, sid_mod, gT, TK.isInt, TK.agg, Array.toList, h1a, r1a, h3a, hw, toNat_pred]
    refine ⟨fun hs => ⟨fun h0 => ⟨by omega, by omega, by omega, h, h, ?_⟩, fun h0 => ?_⟩, fun hs => ?_⟩
    · have hs : inSet n (xs.getD k 0) = true := by rwa [Bool.not_eq_false'] at hs
      have hb := inSet_lt hs
      have hb' := inSet_lt (hall (k - 1) (by omega)).1
      refine askK_of (c_spec_l2Before hb' hb) ?_
      simp (maxSteps := 5000000) -dsimp only [↓gp, gq, reduceCtorEq, Nat.reduceEqDiff, Nat.reduceLT, Nat.reduceLeDiff, Nat.reduceAdd, Nat.reduceMul, Nat.reduceSub, Nat.reduceBEq, Int.reduceToNat, Int.reduceLE, Int.reduceLT, Int.reduceNeg, Nat.reduceMod, sid_ne1, sid_ne2, sid_inj, sid_mod, gT, TK.isInt, TK.agg, Array.toList, h1a, r1a, h3a, hw, toNat_pred]
      refine ⟨fun hbef => isCx_no fun hg => ?_, fun hbef => ?_⟩
      · have := (hg.2.2 k h).2.1 (by omega)
        rw [this] at hbef; cases hbef
      · have hbef : 0 < k → befS (xs.getD (k - 1) 0) (xs.getD k 0) = true := fun _ => by rwa [Bool.not_eq_false'] at hbef
        refine loop_of (fun (i : Nat) s => s.sl 1 = .ref 1 1 0 ∧ s.rw 1 = ⟨1, .box 24 [int n, ints xs]⟩ ∧ s.sl 3 = int k ∧ s.sl 4 = int i ∧ (i ≤ k ∧ ∀ j, j < i → iand .i64 (xs.getD j 0) (xs.getD k 0) ≠ xs.getD j 0)) (fun i => k - i) (0) (by refine ⟨?_, ?_, ?_, ?_, by simp⟩ <;> (first | (simp (maxSteps := 5000000) -dsimp only [gr, Nat.reduceEqDiff, Nat.reduceLT, Nat.reduceAdd, Nat.reduceMod, Nat.reduceBEq, sid_mod, sid_ne1, sid_ne2, sid_inj, h1a, r1a, h3a]; first | done | rfl | (simp; done)) | assumption | rfl)) ?_
        intro i sb ⟨h1b, r1b, h3b, h4b, hIb⟩
        obtain ⟨hik, hin⟩ := hIb
        simp (maxSteps := 5000000) -dsimp only [↓gp, gq, reduceCtorEq, Nat.reduceEqDiff, Nat.reduceLT, Nat.reduceLeDiff, Nat.reduceAdd, Nat.reduceMul, Nat.reduceSub, Nat.reduceBEq, Int.reduceToNat, Int.reduceLE, Int.reduceLT, Int.reduceNeg, Nat.reduceMod, sid_ne1, sid_ne2, sid_inj, sid_mod, gT, TK.isInt, TK.agg, Array.toList, h1b, r1b, h3b, h4b]
        refine ⟨fun hi => ⟨by kernel_rfl, by omega, by omega, h, h, by omega, by omega, fun he => ?_, fun he => again_of (i + 1) ⟨(by (first | (simp (maxSteps := 5000000) -dsimp only [gr, Nat.reduceEqDiff, Nat.reduceLT, Nat.reduceAdd, Nat.reduceMod, Nat.reduceBEq, sid_mod, sid_ne1, sid_ne2, sid_inj, h1b, r1b, h3b, h4b, wrap_nat hi (by omega)]; first | done | rfl | (simp; done)) | assumption | rfl)), (by (first | (simp (maxSteps := 5000000) -dsimp only [gr, Nat.reduceEqDiff, Nat.reduceLT, Nat.reduceAdd, Nat.reduceMod, Nat.reduceBEq, sid_mod, sid_ne1, sid_ne2, sid_inj, h1b, r1b, h3b, h4b, wrap_nat hi (by omega)]; first | done | rfl | (simp; done)) | assumption | rfl)), (by (first | (simp (maxSteps := 5000000) -dsimp only [gr, Nat.reduceEqDiff, Nat.reduceLT, Nat.reduceAdd, Nat.reduceMod, Nat.reduceBEq, sid_mod, sid_ne1, sid_ne2, sid_inj, h1b, r1b, h3b, h4b, wrap_nat hi (by omega)]; first | done | rfl | (simp; done)) | assumption | rfl)), (by (first | (simp (maxSteps := 5000000) -dsimp only [gr, Nat.reduceEqDiff, Nat.reduceLT, Nat.reduceAdd, Nat.reduceMod, Nat.reduceBEq, sid_mod, sid_ne1, sid_ne2, sid_inj, h1b, r1b, h3b, h4b, wrap_nat hi (by omega)]; first | done | rfl | (simp; done)) | assumption | rfl)), ⟨by omega, fun j hj => ?_⟩⟩ (by first | omega | (simp only; omega) | (dsimp only; omega) | (show _ < _; simp; omega))⟩, fun hi => again_of (k + 1) ⟨(by (first | (simp (maxSteps := 5000000) -dsimp only [gr, Nat.reduceEqDiff, Nat.reduceLT, Nat.reduceAdd, Nat.reduceMod, Nat.reduceBEq, sid_mod, sid_ne1, sid_ne2, sid_inj, h1a, r1a, h3a, h1b, r1b, h3b, h4b, wrap_nat h hl]; first | done | rfl | (simp; done)) | assumption | rfl)), (by (first | (simp (maxSteps := 5000000) -dsimp only [gr, Nat.reduceEqDiff, Nat.reduceLT, Nat.reduceAdd, Nat.reduceMod, Nat.reduceBEq, sid_mod, sid_ne1, sid_ne2, sid_inj, h1a, r1a, h3a, h1b, r1b, h3b, h4b, wrap_nat h hl]; first | done | rfl | (simp; done)) | assumption | rfl)), (by (first | (simp (maxSteps := 5000000) -dsimp only [gr, Nat.reduceEqDiff, Nat.reduceLT, Nat.reduceAdd, Nat.reduceMod, Nat.reduceBEq, sid_mod, sid_ne1, sid_ne2, sid_inj, h1a, r1a, h3a, h1b, r1b, h3b, h4b, wrap_nat h hl]; first | done | rfl | (simp; done)) | assumption | rfl)), ⟨by omega, fun j hj => ?_⟩⟩ (by first | omega | (simp only; omega) | (dsimp only; omega) | (show _ < _; simp; omega))⟩
        · exact isCx_no fun hg => (hg.2.2 k h).2.2 i hi (by simpa using he)
        · rcases Nat.lt_succ_iff_lt_or_eq.1 hj with hj | rfl
          · exact hin j hj
          · simpa using he
        · rcases Nat.lt_succ_iff_lt_or_eq.1 hj with hj | rfl
          · exact hall j hj
          · exact ⟨hs, hbef, fun i hi => hin i (by omega)⟩
    · have hs : inSet n (xs.getD k 0) = true := by rwa [Bool.not_eq_false'] at hs
      have hbef : 0 < k → befS (xs.getD (k - 1) 0) (xs.getD k 0) = true := fun h => by omega
      refine loop_of (fun (i : Nat) s => s.sl 1 = .ref 1 1 0 ∧ s.rw 1 = ⟨1, .box 24 [int n, ints xs]⟩ ∧ s.sl 3 = int k ∧ s.sl 4 = int i ∧ (i ≤ k ∧ ∀ j, j < i → iand .i64 (xs.getD j 0) (xs.getD k 0) ≠ xs.getD j 0)) (fun i => k - i) (0) (by refine ⟨?_, ?_, ?_, ?_, by simp⟩ <;> (first | (simp (maxSteps := 5000000) -dsimp only [gr, Nat.reduceEqDiff, Nat.reduceLT, Nat.reduceAdd, Nat.reduceMod, Nat.reduceBEq, sid_mod, sid_ne1, sid_ne2, sid_inj, h1a, r1a, h3a]; first | done | rfl | (simp; done)) | assumption | rfl)) ?_
      intro i sb ⟨h1b, r1b, h3b, h4b, hIb⟩
      obtain ⟨hik, hin⟩ := hIb
      simp (maxSteps := 5000000) -dsimp only [↓gp, gq, reduceCtorEq, Nat.reduceEqDiff, Nat.reduceLT, Nat.reduceLeDiff, Nat.reduceAdd, Nat.reduceMul, Nat.reduceSub, Nat.reduceBEq, Int.reduceToNat, Int.reduceLE, Int.reduceLT, Int.reduceNeg, Nat.reduceMod, sid_ne1, sid_ne2, sid_inj, sid_mod, gT, TK.isInt, TK.agg, Array.toList, h1b, r1b, h3b, h4b]
      refine ⟨fun hi => ⟨by kernel_rfl, by omega, by omega, h, h, by omega, by omega, fun he => ?_, fun he => again_of (i + 1) ⟨(by (first | (simp (maxSteps := 5000000) -dsimp only [gr, Nat.reduceEqDiff, Nat.reduceLT, Nat.reduceAdd, Nat.reduceMod, Nat.reduceBEq, sid_mod, sid_ne1, sid_ne2, sid_inj, h1b, r1b, h3b, h4b, wrap_nat hi (by omega)]; first | done | rfl | (simp; done)) | assumption | rfl)), (by (first | (simp (maxSteps := 5000000) -dsimp only [gr, Nat.reduceEqDiff, Nat.reduceLT, Nat.reduceAdd, Nat.reduceMod, Nat.reduceBEq, sid_mod, sid_ne1, sid_ne2, sid_inj, h1b, r1b, h3b, h4b, wrap_nat hi (by omega)]; first | done | rfl | (simp; done)) | assumption | rfl)), (by (first | (simp (maxSteps := 5000000) -dsimp only [gr, Nat.reduceEqDiff, Nat.reduceLT, Nat.reduceAdd, Nat.reduceMod, Nat.reduceBEq, sid_mod, sid_ne1, sid_ne2, sid_inj, h1b, r1b, h3b, h4b, wrap_nat hi (by omega)]; first | done | rfl | (simp; done)) | assumption | rfl)), (by (first | (simp (maxSteps := 5000000) -dsimp only [gr, Nat.reduceEqDiff, Nat.reduceLT, Nat.reduceAdd, Nat.reduceMod, Nat.reduceBEq, sid_mod, sid_ne1, sid_ne2, sid_inj, h1b, r1b, h3b, h4b, wrap_nat hi (by omega)]; first | done | rfl | (simp; done)) | assumption | rfl)), ⟨by omega, fun j hj => ?_⟩⟩ (by first | omega | (simp only; omega) | (dsimp only; omega) | (show _ < _; simp; omega))⟩, fun hi => again_of (k + 1) ⟨(by (first | (simp (maxSteps := 5000000) -dsimp only [gr, Nat.reduceEqDiff, Nat.reduceLT, Nat.reduceAdd, Nat.reduceMod, Nat.reduceBEq, sid_mod, sid_ne1, sid_ne2, sid_inj, h1a, r1a, h3a, h1b, r1b, h3b, h4b, wrap_nat h hl]; first | done | rfl | (simp; done)) | assumption | rfl)), (by (first | (simp (maxSteps := 5000000) -dsimp only [gr, Nat.reduceEqDiff, Nat.reduceLT, Nat.reduceAdd, Nat.reduceMod, Nat.reduceBEq, sid_mod, sid_ne1, sid_ne2, sid_inj, h1a, r1a, h3a, h1b, r1b, h3b, h4b, wrap_nat h hl]; first | done | rfl | (simp; done)) | assumption | rfl)), (by (first | (simp (maxSteps := 5000000) -dsimp only [gr, Nat.reduceEqDiff, Nat.reduceLT, Nat.reduceAdd, Nat.reduceMod, Nat.reduceBEq, sid_mod, sid_ne1, sid_ne2, sid_inj, h1a, r1a, h3a, h1b, r1b, h3b, h4b, wrap_nat h hl]; first | done | rfl | (simp; done)) | assumption | rfl)), ⟨by omega, fun j hj => ?_⟩⟩ (by first | omega | (simp only; omega) | (dsimp only; omega) | (show _ < _; simp; omega))⟩
      · exact isCx_no fun hg => (hg.2.2 k h).2.2 i hi (by simpa using he)
      · rcases Nat.lt_succ_iff_lt_or_eq.1 hj with hj | rfl
        · exact hin j hj
        · simpa using he
      · rcases Nat.lt_succ_iff_lt_or_eq.1 hj with hj | rfl
        · exact hall j hj
        · exact ⟨hs, hbef, fun i hi => hin i (by omega)⟩
    · have hs : inSet n (xs.getD k 0) = false := by rwa [Bool.not_eq_true'] at hs
      exact isCx_no fun hg => by have := (hg.2.2 k h).1; rw [hs] at this; cases this
  · simp (maxSteps := 5000000) -dsimp only [↓gp, gq, reduceCtorEq, Nat.reduceEqDiff, Nat.reduceLT, Nat.reduceLeDiff, Nat.reduceAdd, Nat.reduceMul, Nat.reduceSub, Nat.reduceBEq, Int.reduceToNat, Int.reduceLE, Int.reduceLT, Int.reduceNeg, Nat.reduceMod, sid_ne1, sid_ne2, sid_inj, sid_mod, gT, TK.isInt, TK.agg, Array.toList, h1a, r1a, h3a, hw, toNat_pred]
    by_cases hn : 1 ≤ n ∧ n ≤ 6
    · rw [isCx_yes ⟨hn.1, hn.2, fun k hk => hall k (by omega)⟩]
      simp [hn.1, hn.2]
    · rw [isCx_no fun hg => hn ⟨hg.1, hg.2.1⟩]
      symm
      rw [Bool.and_eq_false_iff, decide_eq_false_iff_not, decide_eq_false_iff_not]
      omega
theorem c_impl_isAntichain (n : Int) (xs : List Int) : AC Try.prog 91 [int n, ints xs] (.im (bool (isCx n xs))) := by
  refine AC.go (rs := [.tmp 4]) T_ok mixed Try.func91 rfl rfl rfl (by kernel_rfl) fun hl => ?_
  simp only [lens_cons, lens_nil, and_true, lens2_v, lens2_iL, true_and] at hl
  simp (maxSteps := 5000000) -dsimp only [↓gp, gq, reduceCtorEq, Nat.reduceEqDiff, Nat.reduceLT, Nat.reduceLeDiff, Nat.reduceAdd, Nat.reduceMul, Nat.reduceSub, Nat.reduceBEq, Int.reduceToNat, Int.reduceLE, Int.reduceLT, Int.reduceNeg, Nat.reduceMod, sid_ne1, sid_ne2, sid_inj, sid_mod, gT, TK.isInt, TK.agg, Array.toList]
  refine ⟨fun hn => ⟨fun h6 => isCx_no fun hg => by have := hg.2.1; omega, fun h6 => ?_⟩, fun hn => isCx_no fun hg => by have := hg.1; omega⟩
  refine loop_of (fun (k : Nat) s => s.sl 0 = int n ∧ s.sl 1 = ints xs ∧ s.sl 17 = ints xs ∧ s.sl 18 = int xs.length ∧ s.sl 19 = int k ∧ (k ≤ xs.length ∧ ∀ i, i < k → inSet n (xs.getD i 0) = true ∧ (0 < i → befS (xs.getD (i - 1) 0) (xs.getD i 0) = true))) (fun k => xs.length - k) (0) (by refine ⟨?_, ?_, ?_, ?_, ?_, by simp⟩ <;> (first | (simp (maxSteps := 5000000) -dsimp only [gr, Nat.reduceEqDiff, Nat.reduceLT, Nat.reduceAdd, Nat.reduceMod, Nat.reduceBEq, sid_mod, sid_ne1, sid_ne2, sid_inj]; first | done | rfl | (simp; done)) | assumption | rfl)) ?_
  intro k sa ⟨h0a, h1a, h17a, h18a, h19a, hIa⟩
  obtain ⟨hk, hall⟩ := hIa
  have hw : IntKind.i64.wrap ((k : Int) - 1) = (k : Int) - 1 := wrap_id (by omega) (by omega)
  simp (maxSteps := 5000000) -dsimp only [↓gp, gq, reduceCtorEq, Nat.reduceEqDiff, Nat.reduceLT, Nat.reduceLeDiff, Nat.reduceAdd, Nat.reduceMul, Nat.reduceSub, Nat.reduceBEq, Int.reduceToNat, Int.reduceLE, Int.reduceLT, Int.reduceNeg, Nat.reduceMod, sid_ne1, sid_ne2, sid_inj, sid_mod, gT, TK.isInt, TK.agg, Array.toList, h0a, h1a, h17a, h18a, h19a, hw, toNat_pred]
  refine ⟨fun h => ⟨h, h, askK_of (c_impl_IsSet _ _) ?_⟩, fun h => ?_⟩
  · simp (maxSteps := 5000000) -dsimp only [↓gp, gq, reduceCtorEq, Nat.reduceEqDiff, Nat.reduceLT, Nat.reduceLeDiff, Nat.reduceAdd, Nat.reduceMul, Nat.reduceSub, Nat.reduceBEq, Int.reduceToNat, Int.reduceLE, Int.reduceLT, Int.reduceNeg, Nat.reduceMod, sid_ne1, sid_ne2, sid_inj, sid_mod, gT, TK.isInt, TK.agg, Array.toList, h0a, h1a, h17a, h18a, h19a, hw, toNat_pred]
    refine ⟨fun hs => ?_, fun hs => ⟨fun h0 => ⟨by omega, by omega, by omega, askK_of (c_impl_BeforeSet _ _) ?_⟩, fun h0 => ?_⟩⟩
    · have hs : inSet n (xs.getD k 0) = false := by rwa [Bool.not_eq_true'] at hs
      exact isCx_no fun hg => by have := (hg.2.2 k h).1; rw [hs] at this; cases this
    · simp (maxSteps := 5000000) -dsimp only [↓gp, gq, reduceCtorEq, Nat.reduceEqDiff, Nat.reduceLT, Nat.reduceLeDiff, Nat.reduceAdd, Nat.reduceMul, Nat.reduceSub, Nat.reduceBEq, Int.reduceToNat, Int.reduceLE, Int.reduceLT, Int.reduceNeg, Nat.reduceMod, sid_ne1, sid_ne2, sid_inj, sid_mod, gT, TK.isInt, TK.agg, Array.toList, h0a, h1a, h17a, h18a, h19a, hw, toNat_pred]
      refine ⟨fun hb => isCx_no fun hg => ?_, fun hb => again_of (k + 1) ⟨(by (first | (simp (maxSteps := 5000000) -dsimp only [gr, Nat.reduceEqDiff, Nat.reduceLT, Nat.reduceAdd, Nat.reduceMod, Nat.reduceBEq, sid_mod, sid_ne1, sid_ne2, sid_inj, h0a, h1a, h17a, h18a, h19a, wrap_nat h hl]; first | done | rfl | (simp; done)) | assumption | rfl)), (by (first | (simp (maxSteps := 5000000) -dsimp only [gr, Nat.reduceEqDiff, Nat.reduceLT, Nat.reduceAdd, Nat.reduceMod, Nat.reduceBEq, sid_mod, sid_ne1, sid_ne2, sid_inj, h0a, h1a, h17a, h18a, h19a, wrap_nat h hl]; first | done | rfl | (simp; done)) | assumption | rfl)), (by (first | (simp (maxSteps := 5000000) -dsimp only [gr, Nat.reduceEqDiff, Nat.reduceLT, Nat.reduceAdd, Nat.reduceMod, Nat.reduceBEq, sid_mod, sid_ne1, sid_ne2, sid_inj, h0a, h1a, h17a, h18a, h19a, wrap_nat h hl]; first | done | rfl | (simp; done)) | assumption | rfl)), (by (first | (simp (maxSteps := 5000000) -dsimp only [gr, Nat.reduceEqDiff, Nat.reduceLT, Nat.reduceAdd, Nat.reduceMod, Nat.reduceBEq, sid_mod, sid_ne1, sid_ne2, sid_inj, h0a, h1a, h17a, h18a, h19a, wrap_nat h hl]; first | done | rfl | (simp; done)) | assumption | rfl)), (by (first | (simp (maxSteps := 5000000) -dsimp only [gr, Nat.reduceEqDiff, Nat.reduceLT, Nat.reduceAdd, Nat.reduceMod, Nat.reduceBEq, sid_mod, sid_ne1, sid_ne2, sid_inj, h0a, h1a, h17a, h18a, h19a, wrap_nat h hl]; first | done | rfl | (simp; done)) | assumption | rfl)), ⟨by omega, fun j hj => ?_⟩⟩ (by first | omega | (simp only; omega) | (dsimp only; omega) | (show _ < _; simp; omega))⟩
      · have := (hg.2.2 k h).2.1 (by omega)
        rw [this] at hb; cases hb
      · rcases Nat.lt_succ_iff_lt_or_eq.1 hj with hj | rfl
        · exact hall j hj
        · exact ⟨by rwa [Bool.not_eq_false'] at hs, fun _ => by rwa [Bool.not_eq_false'] at hb⟩
    · refine again_of (k + 1) ⟨(by (first | (simp (maxSteps := 5000000) -dsimp only [gr, Nat.reduceEqDiff, Nat.reduceLT, Nat.reduceAdd, Nat.reduceMod, Nat.reduceBEq, sid_mod, sid_ne1, sid_ne2, sid_inj, h0a, h1a, h17a, h18a, h19a, wrap_nat h hl]; first | done | rfl | (simp; done)) | assumption | rfl)), (by (first | (simp (maxSteps := 5000000) -dsimp only [gr, Nat.reduceEqDiff, Nat.reduceLT, Nat.reduceAdd, Nat.reduceMod, Nat.reduceBEq, sid_mod, sid_ne1, sid_ne2, sid_inj, h0a, h1a, h17a, h18a, h19a, wrap_nat h hl]; first | done | rfl | (simp; done)) | assumption | rfl)), (by (first | (simp (maxSteps := 5000000) -dsimp only [gr, Nat.reduceEqDiff, Nat.reduceLT, Nat.reduceAdd, Nat.reduceMod, Nat.reduceBEq, sid_mod, sid_ne1, sid_ne2, sid_inj, h0a, h1a, h17a, h18a, h19a, wrap_nat h hl]; first | done | rfl | (simp; done)) | assumption | rfl)), (by (first | (simp (maxSteps := 5000000) -dsimp only [gr, Nat.reduceEqDiff, Nat.reduceLT, Nat.reduceAdd, Nat.reduceMod, Nat.reduceBEq, sid_mod, sid_ne1, sid_ne2, sid_inj, h0a, h1a, h17a, h18a, h19a, wrap_nat h hl]; first | done | rfl | (simp; done)) | assumption | rfl)), (by (first | (simp (maxSteps := 5000000) -dsimp only [gr, Nat.reduceEqDiff, Nat.reduceLT, Nat.reduceAdd, Nat.reduceMod, Nat.reduceBEq, sid_mod, sid_ne1, sid_ne2, sid_inj, h0a, h1a, h17a, h18a, h19a, wrap_nat h hl]; first | done | rfl | (simp; done)) | assumption | rfl)), ⟨by omega, fun j hj => ?_⟩⟩ (by first | omega | (simp only; omega) | (dsimp only; omega) | (show _ < _; simp; omega))
      rcases Nat.lt_succ_iff_lt_or_eq.1 hj with hj | rfl
      · exact hall j hj
      · exact ⟨by rwa [Bool.not_eq_false'] at hs, fun _ => by omega⟩
  · have hall' : ∀ i, i < xs.length → inSet n (xs.getD i 0) = true ∧ (0 < i → befS (xs.getD (i - 1) 0) (xs.getD i 0) = true) := fun i hi => hall i (by omega)
    clear hw hall
    have hsub : ∀ i j, i < xs.length → j < xs.length → (iandnot .i64 (xs.getD i 0) (xs.getD j 0) = 0 ↔ iand .i64 (xs.getD i 0) (xs.getD j 0) = xs.getD i 0) := fun i j hi hj => andnot_zero (inSet_lt (hall' i hi).1) (inSet_lt (hall' j hj).1)
    refine loop_of (fun (i : Nat) s => s.sl 1 = ints xs ∧ s.sl 41 = ints xs ∧ s.sl 42 = int xs.length ∧ s.sl 43 = int i ∧ (i ≤ xs.length ∧ ∀ j k, j < i → j < k → k < xs.length → iand .i64 (xs.getD j 0) (xs.getD k 0) ≠ xs.getD j 0)) (fun i => xs.length - i) (0) (by refine ⟨?_, ?_, ?_, ?_, by simp⟩ <;> (first | (simp (maxSteps := 5000000) -dsimp only [gr, Nat.reduceEqDiff, Nat.reduceLT, Nat.reduceAdd, Nat.reduceMod, Nat.reduceBEq, sid_mod, sid_ne1, sid_ne2, sid_inj, h0a, h1a, h17a, h18a, h19a]; first | done | rfl | (simp; done)) | assumption | rfl)) ?_
    intro i sb ⟨h1b, h41b, h42b, h43b, hIb⟩
    obtain ⟨hi, hin⟩ := hIb
    have hwi : i < xs.length → IntKind.i64.wrap ((i : Int) + 1) = ((i + 1 : Nat) : Int) := fun h => wrap_nat h hl
    simp (maxSteps := 5000000) -dsimp only [↓gp, gq, reduceCtorEq, Nat.reduceEqDiff, Nat.reduceLT, Nat.reduceLeDiff, Nat.reduceAdd, Nat.reduceMul, Nat.reduceSub, Nat.reduceBEq, Int.reduceToNat, Int.reduceLE, Int.reduceLT, Int.reduceNeg, Nat.reduceMod, sid_ne1, sid_ne2, sid_inj, sid_mod, gT, TK.isInt, TK.agg, Array.toList, h1b, h41b, h42b, h43b]
    refine ⟨fun hlt => ?_, fun hge => isCx_yes ⟨by omega, by omega, fun k hk => ⟨(hall' k hk).1, (hall' k hk).2, fun j hj => hin j k (by omega) hj hk⟩⟩⟩
    rw [hwi hlt]
    refine ⟨hlt, hlt, by omega, by omega, ?_⟩
    refine loop_of (fun (j : Nat) s => s.sl 1 = ints xs ∧ s.sl 41 = ints xs ∧ s.sl 42 = int xs.length ∧ s.sl 43 = int i ∧ s.sl 8 = int (xs.getD i 0) ∧ s.sl 51 = ints (xs.drop (i + 1)) ∧ s.sl 52 = int (xs.length - (i + 1) : Nat) ∧ s.sl 53 = int j ∧ (j ≤ xs.length - (i + 1) ∧ ∀ k, k < j → iand .i64 (xs.getD i 0) (xs.getD (i + 1 + k) 0) ≠ xs.getD i 0)) (fun j => xs.length - (i + 1) - j) (0) (by refine ⟨?_, ?_, ?_, ?_, ?_, ?_, ?_, ?_, by simp⟩ <;> (first | (simp (maxSteps := 5000000) -dsimp only [gr, Nat.reduceEqDiff, Nat.reduceLT, Nat.reduceAdd, Nat.reduceMod, Nat.reduceBEq, sid_mod, sid_ne1, sid_ne2, sid_inj, h1b, h41b, h42b, h43b]; first | done | rfl | (simp; done)) | assumption | rfl)) ?_
    intro j sc ⟨h1c, h41c, h42c, h43c, h8c, h51c, h52c, h53c, hIc⟩
    obtain ⟨hj, hinn⟩ := hIc
    have hd : ∀ j, (xs.drop (i + 1)).getD j 0 = xs.getD (i + 1 + j) 0 := fun j => by simp [List.getD]
    simp (maxSteps := 5000000) -dsimp only [↓gp, gq, reduceCtorEq, Nat.reduceEqDiff, Nat.reduceLT, Nat.reduceLeDiff, Nat.reduceAdd, Nat.reduceMul, Nat.reduceSub, Nat.reduceBEq, Int.reduceToNat, Int.reduceLE, Int.reduceLT, Int.reduceNeg, Nat.reduceMod, sid_ne1, sid_ne2, sid_inj, sid_mod, gT, TK.isInt, TK.agg, Array.toList, h1c, h41c, h42c, h43c, h8c, h51c, h52c, h53c, hd, List.length_drop]
    refine ⟨fun h2 => ⟨h2, h2, fun he => ?_, fun he => again_of (j + 1) ⟨(by (first | (simp (maxSteps := 5000000) -dsimp only [gr, Nat.reduceEqDiff, Nat.reduceLT, Nat.reduceAdd, Nat.reduceMod, Nat.reduceBEq, sid_mod, sid_ne1, sid_ne2, sid_inj, h1c, h41c, h42c, h43c, h8c, h51c, h52c, h53c, wrap_nat h2 (by omega)]; first | done | rfl | (simp; done)) | assumption | rfl)), (by (first | (simp (maxSteps := 5000000) -dsimp only [gr, Nat.reduceEqDiff, Nat.reduceLT, Nat.reduceAdd, Nat.reduceMod, Nat.reduceBEq, sid_mod, sid_ne1, sid_ne2, sid_inj, h1c, h41c, h42c, h43c, h8c, h51c, h52c, h53c, wrap_nat h2 (by omega)]; first | done | rfl | (simp; done)) | assumption | rfl)), (by (first | (simp (maxSteps := 5000000) -dsimp only [gr, Nat.reduceEqDiff, Nat.reduceLT, Nat.reduceAdd, Nat.reduceMod, Nat.reduceBEq, sid_mod, sid_ne1, sid_ne2, sid_inj, h1c, h41c, h42c, h43c, h8c, h51c, h52c, h53c, wrap_nat h2 (by omega)]; first | done | rfl | (simp; done)) | assumption | rfl)), (by (first | (simp (maxSteps := 5000000) -dsimp only [gr, Nat.reduceEqDiff, Nat.reduceLT, Nat.reduceAdd, Nat.reduceMod, Nat.reduceBEq, sid_mod, sid_ne1, sid_ne2, sid_inj, h1c, h41c, h42c, h43c, h8c, h51c, h52c, h53c, wrap_nat h2 (by omega)]; first | done | rfl | (simp; done)) | assumption | rfl)), (by (first | (simp (maxSteps := 5000000) -dsimp only [gr, Nat.reduceEqDiff, Nat.reduceLT, Nat.reduceAdd, Nat.reduceMod, Nat.reduceBEq, sid_mod, sid_ne1, sid_ne2, sid_inj, h1c, h41c, h42c, h43c, h8c, h51c, h52c, h53c, wrap_nat h2 (by omega)]; first | done | rfl | (simp; done)) | assumption | rfl)), (by (first | (simp (maxSteps := 5000000) -dsimp only [gr, Nat.reduceEqDiff, Nat.reduceLT, Nat.reduceAdd, Nat.reduceMod, Nat.reduceBEq, sid_mod, sid_ne1, sid_ne2, sid_inj, h1c, h41c, h42c, h43c, h8c, h51c, h52c, h53c, wrap_nat h2 (by omega)]; first | done | rfl | (simp; done)) | assumption | rfl)), (by (first | (simp (maxSteps := 5000000) -dsimp only [gr, Nat.reduceEqDiff, Nat.reduceLT, Nat.reduceAdd, Nat.reduceMod, Nat.reduceBEq, sid_mod, sid_ne1, sid_ne2, sid_inj, h1c, h41c, h42c, h43c, h8c, h51c, h52c, h53c, wrap_nat h2 (by omega)]; first | done | rfl | (simp; done)) | assumption | rfl)), (by (first | (simp (maxSteps := 5000000) -dsimp only [gr, Nat.reduceEqDiff, Nat.reduceLT, Nat.reduceAdd, Nat.reduceMod, Nat.reduceBEq, sid_mod, sid_ne1, sid_ne2, sid_inj, h1c, h41c, h42c, h43c, h8c, h51c, h52c, h53c, wrap_nat h2 (by omega)]; first | done | rfl | (simp; done)) | assumption | rfl)), ⟨by omega, fun k hk => ?_⟩⟩ (by first | omega | (simp only; omega) | (dsimp only; omega) | (show _ < _; simp; omega))⟩, fun h2 => again_of (i + 1) ⟨(by (first | (simp (maxSteps := 5000000) -dsimp only [gr, Nat.reduceEqDiff, Nat.reduceLT, Nat.reduceAdd, Nat.reduceMod, Nat.reduceBEq, sid_mod, sid_ne1, sid_ne2, sid_inj, h1b, h41b, h42b, h43b, h1c, h41c, h42c, h43c, h8c, h51c, h52c, h53c, hwi hlt]; first | done | rfl | (simp; done)) | assumption | rfl)), (by (first | (simp (maxSteps := 5000000) -dsimp only [gr, Nat.reduceEqDiff, Nat.reduceLT, Nat.reduceAdd, Nat.reduceMod, Nat.reduceBEq, sid_mod, sid_ne1, sid_ne2, sid_inj, h1b, h41b, h42b, h43b, h1c, h41c, h42c, h43c, h8c, h51c, h52c, h53c, hwi hlt]; first | done | rfl | (simp; done)) | assumption | rfl)), (by (first | (simp (maxSteps := 5000000) -dsimp only [gr, Nat.reduceEqDiff, Nat.reduceLT, Nat.reduceAdd, Nat.reduceMod, Nat.reduceBEq, sid_mod, sid_ne1, sid_ne2, sid_inj, h1b, h41b, h42b, h43b, h1c, h41c, h42c, h43c, h8c, h51c, h52c, h53c, hwi hlt]; first | done | rfl | (simp; done)) | assumption | rfl)), (by (first | (simp (maxSteps := 5000000) -dsimp only [gr, Nat.reduceEqDiff, Nat.reduceLT, Nat.reduceAdd, Nat.reduceMod, Nat.reduceBEq, sid_mod, sid_ne1, sid_ne2, sid_inj, h1b, h41b, h42b, h43b, h1c, h41c, h42c, h43c, h8c, h51c, h52c, h53c, hwi hlt]; first | done | rfl | (simp; done)) | assumption | rfl)), ⟨by omega, fun j k hj' hk hk' => ?_⟩⟩ (by first | omega | (simp only; omega) | (dsimp only; omega) | (show _ < _; simp; omega))⟩
    · refine isCx_no fun hg => (hg.2.2 (i + 1 + j) (by omega)).2.2 i (by omega) ((hsub i (i + 1 + j) hlt (by omega)).1 (by simpa using he))
    · rcases Nat.lt_succ_iff_lt_or_eq.1 hk with hk | rfl
      · exact hinn k hk
      · intro e
        have := (hsub i (i + 1 + k) hlt (by omega)).2 e
        rw [this] at he
        simp at he
    · rcases Nat.lt_succ_iff_lt_or_eq.1 hj' with hj' | rfl
      · exact hin j k hj' hk hk'
      · have := hinn (k - (j + 1)) (by omega)
        rwa [show j + 1 + (k - (j + 1)) = k by omega] at this
end Go.Proofs.Ytlapkhmehcnjeaa

namespace Go.Proofs.Ytlapkhmehcnjeaa
open Go.Abs
set_option linter.unusedSimpArgs false
set_option linter.unusedVariables false

theorem befS_irrefl (a : Int) : befS a a = false := by unfold befS; simp
theorem befS_trans {a b c : Int} (h1 : befS a b = true) (h2 : befS b c = true) : befS a c = true := by
  unfold befS at *
  simp only [Bool.and_eq_true, decide_eq_true_eq] at *
  obtain ⟨ha, hb, h1⟩ := h1
  obtain ⟨_, hc, h2⟩ := h2
  refine ⟨ha, hc, ?_⟩
  split at h1 <;> split at h2 <;> simp only [decide_eq_true_eq] at h1 h2
  · rw [if_pos (by omega)]; exact decide_eq_true (by omega)
  · rw [if_neg (by omega)]; exact decide_eq_true (by omega)
  · rw [if_neg (by omega)]; exact decide_eq_true (by omega)
  · rw [if_neg (by omega)]; exact decide_eq_true (by omega)
theorem cx_sorted {n : Int} {xs : List Int} (h : cxP n xs) : ∀ (j i : Nat), i < j → j < xs.length → befS (xs.getD i 0) (xs.getD j 0) = true := by
  intro j
  induction j with
  | zero => intro i hi; omega
  | succ j ih =>
    intro i hi hj
    have h1 := (h.2.2 (j + 1) hj).2.1 (by omega)
    rw [Nat.add_sub_cancel] at h1
    rcases Nat.lt_succ_iff_lt_or_eq.1 hi with hi | rfl
    · exact befS_trans (ih i hi (by omega)) h1
    · exact h1
theorem cx_nodup {n : Int} {xs : List Int} (h : cxP n xs) : xs.Nodup := by
  refine List.pairwise_iff_getElem.2 fun i j hi hj hij e => ?_
  have := cx_sorted h j i hij hj
  rw [getD_at 0 hi, getD_at 0 hj, e, befS_irrefl] at this
  cases this
theorem nodup_take {xs : List Int} (h : ∀ k, k < xs.length → xs.getD k 0 ∉ xs.take k) : xs.Nodup := by
  refine List.pairwise_iff_getElem.2 fun i j hi hj hij e => ?_
  refine h j hj ?_
  rw [getD_at 0 hj, ← e]
  exact List.mem_take_iff_getElem.2 ⟨i, by omega, rfl⟩
open Classical in
/-- The same sets in some order. -/
noncomputable def isOrd (n : Int) (xs list : List Int) : Bool := decide (cxP n xs ∧ list.Perm xs)
open Classical in
theorem isOrd_no {n : Int} {xs list : List Int} (h : ¬ (cxP n xs ∧ list.Perm xs)) : isOrd n xs list = false := decide_eq_false h
open Classical in
theorem isOrd_yes {n : Int} {xs list : List Int} (h : cxP n xs ∧ list.Perm xs) : isOrd n xs list = true := decide_eq_true h
open Classical in
theorem isOrd_iff {n : Int} {xs list : List Int} : isOrd n xs list = true ↔ (cxP n xs ∧ list.Perm xs) := decide_eq_true_iff
theorem isOrd_eq (n : Int) (xs list : List Int) (h : isCx n xs = true) : decide (xs.length = list.length ∧ ∀ x ∈ xs, x ∈ list) = isOrd n xs list := by
  have hc := isCx_iff.1 h
  by_cases hp : xs.length = list.length ∧ ∀ x ∈ xs, x ∈ list
  · rw [decide_eq_true hp, isOrd_yes ⟨hc, (perm_of_sub (cx_nodup hc) hp.2 (by omega)).symm⟩]
  · rw [decide_eq_false hp, isOrd_no fun hg => hp ⟨hg.2.length_eq.symm, fun x hx => hg.2.mem_iff.2 hx⟩]
end Go.Proofs.Ytlapkhmehcnjeaa

namespace Go.Proofs.Ytlapkhmehcnjeaa
open Go.Abs
set_option linter.unusedSimpArgs false
set_option linter.unusedVariables false

/-- The points that are not in a set. -/
def compl (n s : Int) : Int := if inSet n s = true then 2 ^ n.toNat - 1 - s else -1
theorem inSet_nat {n s : Int} (h : inSet n s = true) : ∃ m t : Nat, n = m ∧ s = t ∧ m ≤ 6 ∧ t < 2 ^ m := by
  unfold inSet at h
  have h := of_decide_eq_true h
  obtain ⟨m, rfl⟩ := Int.eq_ofNat_of_zero_le h.1
  obtain ⟨t, rfl⟩ := Int.eq_ofNat_of_zero_le h.2.2.1
  refine ⟨m, t, rfl, rfl, by omega, ?_⟩
  have := h.2.2.2
  rw [pow_nat] at this
  omega
theorem compl_bits : ∀ m, m < 7 → ∀ t, t < 64 → t < 2 ^ m → ((2 ^ m - 1) ^^^ ((2 ^ m - 1) &&& t)) = 2 ^ m - 1 - t := by decide +kernel
/-- The complements in the order of the list. -/
noncomputable def shellL (n : Int) (xs list : List Int) : List Int := if isOrd n xs list = true then list.map (compl n) else []
theorem shellL_le {n : Int} {xs list : List Int} {b : Nat} (h : list.length ≤ b) : (shellL n xs list).length ≤ b := by
  unfold shellL; split <;> simp [h]
theorem map_snoc {f : Int → Int} {l : List Int} {k : Nat} (h : k < l.length) : (l.take k).map f ++ [f (l.getD k 0)] = (l.take (k + 1)).map f := by
  rw [take_snoc 0 h]; simp
end Go.Proofs.Ytlapkhmehcnjeaa

namespace Go.Proofs.Ytlapkhmehcnjeaa
open Go.Abs
set_option linter.unusedSimpArgs false
set_option linter.unusedVariables false

/-- The points that the generators before leave over. -/
def ptStep (g o b : Int) : Int := if szOf (iandnot .i64 b g) = 1 then ior .i64 o (iandnot .i64 b g) else o
def ptsIn (before : List Int) (g : Int) : Int := before.foldl (ptStep g) 0
def okL (l : List Int) : Prop := ∀ b ∈ l, 0 ≤ b ∧ b < 64
theorem okL_at {l : List Int} (h : okL l) {k : Nat} (hk : k < l.length) : 0 ≤ l.getD k 0 ∧ l.getD k 0 < 64 := h _ (getD_mem 0 hk)
theorem okL_take {l : List Int} (h : okL l) (k : Nat) : okL (l.take k) := fun b hb => h b (List.mem_of_mem_take hb)
theorem ptStep_lt {g o b : Int} (hg : 0 ≤ g ∧ g < 64) (ho : 0 ≤ o ∧ o < 64) (hb : 0 ≤ b ∧ b < 64) : 0 ≤ ptStep g o b ∧ ptStep g o b < 64 := by
  unfold ptStep
  split
  · exact ior_lt ho (andnot_sub hb hg).2
  · exact ho
theorem ptsIn_lt {l : List Int} {g : Int} (hl : okL l) (hg : 0 ≤ g ∧ g < 64) : 0 ≤ ptsIn l g ∧ ptsIn l g < 64 := by
  unfold ptsIn
  have : ∀ (l : List Int) (o : Int), okL l → (0 ≤ o ∧ o < 64) → 0 ≤ l.foldl (ptStep g) o ∧ l.foldl (ptStep g) o < 64 := by
    intro l
    induction l with
    | nil => intro o _ h; exact h
    | cons b l ih => intro o hl h; exact ih _ (fun x hx => hl x (by simp [hx])) (ptStep_lt hg h (hl b (by simp)))
  exact this l 0 hl (by omega)
theorem szOf_pop {s : Int} (h : 0 ≤ s ∧ s < 64) : szOf s = (popN s.toNat : Nat) := by rw [szOf, if_pos h]
/-- Every generator before has one of the points. -/
def fitsB (before : List Int) (g : Int) : Bool := before.all fun b => iand .i64 b (ptsIn before g) != 0
theorem all_no {l : List Int} {p : Int → Bool} {k : Nat} (h : k < l.length) (hp : p (l.getD k 0) = false) : l.all p = false := by
  rw [List.all_eq_false]; exact ⟨_, getD_mem 0 h, fun e => by rw [hp] at e; cases e⟩
theorem all_yes {l : List Int} {p : Int → Bool} (h : ∀ k, k < l.length → p (l.getD k 0) = true) : l.all p = true := by
  rw [List.all_eq_true]; intro x hx
  obtain ⟨i, hi, rfl⟩ := mem_getD 0 hx
  exact h i hi
/-- An order by which every generator divides by points. -/
def divAt (list : List Int) (k : Nat) : Bool := fitsB (list.take k) (list.getD k 0)
noncomputable def divP (n : Int) (xs list : List Int) : Bool := isOrd n xs list && (List.range list.length).all (divAt list)
theorem ord_ok {n : Int} {xs list : List Int} (h : isOrd n xs list = true) : okL list := fun b hb => by
  obtain ⟨hc, hp⟩ := isOrd_iff.1 h
  obtain ⟨i, hi, rfl⟩ := mem_getD 0 (hp.mem_iff.1 hb)
  exact inSet_lt (hc.2.2 i hi).1
theorem divP_no {n : Int} {xs list : List Int} {k : Nat} (h : k < list.length) (hd : divAt list k = false) : divP n xs list = false := by
  unfold divP
  rw [Bool.and_eq_false_iff]
  right
  rw [List.all_eq_false]
  exact ⟨k, by simpa using h, by simp [hd]⟩
theorem divP_yes {n : Int} {xs list : List Int} (ho : isOrd n xs list = true) (h : ∀ k, k < list.length → divAt list k = true) : divP n xs list = true := by
  unfold divP
  rw [ho, Bool.true_and, List.all_eq_true]
  exact fun k hk => h k (by simpa using hk)
theorem divP_ord {n : Int} {xs list : List Int} (h : divP n xs list = true) : isOrd n xs list = true := by
  unfold divP at h; rw [Bool.and_eq_true] at h; exact h.1
end Go.Proofs.Ytlapkhmehcnjeaa

namespace Go.Proofs.Ytlapkhmehcnjeaa
open Go.Abs
set_option linter.unusedSimpArgs false
set_option linter.unusedVariables false

/-- The sets that meet every one of the list. -/
def meetsAll (xs : List Int) (s : Nat) : Bool := xs.all fun e => iand .i64 (s : Int) e != 0
def covF (n : Nat) (xs : List Int) (s : Nat) : Bool := decide (s < 2 ^ n) && meetsAll xs s
def covL (n : Nat) (xs : List Int) : List Int := ofN (extN (covF n xs) false)
theorem covL_le (n : Nat) (xs : List Int) : (covL n xs).length ≤ 448 := by
  unfold covL extN
  rw [ofN_length]
  exact Nat.le_trans filt_len (ordN_len _)
/-- Sets of a number of points, not too many. -/
def setsP (n : Int) (xs : List Int) : Prop := 1 ≤ n ∧ n ≤ 6 ∧ xs.length ≤ 64 ∧ ∀ x ∈ xs, inSet n x = true
theorem mask_fun (w : Nat → Bool) (n : Nat) : (maskF w n).testBit = fun s => decide (s < n) && w s := by funext s; exact maskF_bit w n s
theorem mask_lt64 (w : Nat → Bool) {n : Nat} (hn : n ≤ 6) : maskF w (2 ^ n) < 18446744073709551616 := by
  have h1 := maskF_lt w (2 ^ n)
  have h2 := two_pow_le hn
  have h3 : 2 ^ (2 ^ n) ≤ 2 ^ 64 := Nat.pow_le_pow_right (by omega) h2
  omega
theorem mem_filt {n : Nat} {p : Nat → Bool} {s : Nat} : inF (ofN ((List.range n).filter p)) s = (decide (s < n) && p s) := by
  unfold inF ofN
  rw [Bool.eq_iff_iff]
  simp only [decide_eq_true_eq, Bool.and_eq_true, List.mem_map, List.mem_filter, List.mem_range]
  constructor
  · rintro ⟨t, ⟨h1, h2⟩, e⟩
    have : t = s := by omega
    subst this
    exact ⟨h1, h2⟩
  · rintro ⟨h1, h2⟩; exact ⟨s, ⟨h1, h2⟩, rfl⟩
theorem rfilt_yes {p : Nat → Bool} {k : Nat} (hp : p k = true) : (List.range (k + 1)).filter p = (List.range k).filter p ++ [k] := by
  rw [List.range_succ, List.filter_append]; simp only [List.filter_cons, hp, if_true, List.filter_nil]
theorem rfilt_no {p : Nat → Bool} {k : Nat} (hp : p k = false) : (List.range (k + 1)).filter p = (List.range k).filter p := by
  rw [List.range_succ, List.filter_append]; simp only [List.filter_cons, hp, Bool.false_eq_true, if_false, List.filter_nil, List.append_nil]
open Classical in
theorem isGraph_iff {n : Int} {xs : List Int} : isGraph n xs = true ↔ graphP n xs := decide_eq_true_iff
theorem graph_sets {n : Int} {xs : List Int} (h : graphP n xs) : setsP n xs := by
  obtain ⟨h1, h2, h3⟩ := h
  have hin : ∀ k, k < xs.length → 0 ≤ xs.getD k 0 ∧ xs.getD k 0 < 64 := fun k hk => inSet_lt (h3 k hk).1
  have hk : ∀ k : Nat, k < xs.length → (k : Int) ≤ xs.getD k 0 := by
    intro k
    induction k with
    | zero => intro hk; have := hin 0 hk; omega
    | succ k ih =>
      intro hk
      have e := (h3 (k + 1) hk).2.2 (by omega)
      rw [Nat.add_sub_cancel] at e
      have := ih (by omega)
      omega
  refine ⟨h1, h2, ?_, fun x hx => ?_⟩
  · rcases Nat.lt_or_ge 64 xs.length with hc | hc
    · have := hk 64 hc; have := hin 64 hc; omega
    · exact hc
  · obtain ⟨i, hi, rfl⟩ := mem_getD 0 hx
    exact (h3 i hi).1
noncomputable def vcovL (n : Int) (xs : List Int) : List Int := if isGraph n xs = true then covL n.toNat xs else []
theorem vcovL_le (n : Int) (xs : List Int) : (vcovL n xs).length ≤ 1048576 := by
  unfold vcovL
  split
  · exact Nat.le_trans (covL_le _ _) (by omega)
  · simp
end Go.Proofs.Ytlapkhmehcnjeaa

namespace Go.Proofs.Ytlapkhmehcnjeaa
open Go.Abs
set_option linter.unusedSimpArgs false
set_option linter.unusedVariables false

theorem c_spec_IsFieldPrime (p : Int) : AC Try.prog 69 [int p] (.im (bool (isP p))) := by
  refine AC.go (rs := [.tmp 2]) T_ok mixed Try.func69 rfl rfl rfl (by kernel_rfl) fun hl => ?_
  simp (maxSteps := 5000000) -dsimp only [↓gp, gq, reduceCtorEq, Nat.reduceEqDiff, Nat.reduceLT, Nat.reduceLeDiff, Nat.reduceAdd, Nat.reduceMul, Nat.reduceSub, Nat.reduceBEq, Int.reduceToNat, Int.reduceLE, Int.reduceLT, Int.reduceNeg, Nat.reduceMod, sid_ne1, sid_ne2, sid_inj, sid_mod, gT, TK.isInt, TK.agg, Array.toList]
  unfold isP
  exact ⟨fun h => ⟨fun h2 => by simp [h, h2], fun h2 => by simp [h, h2]⟩, fun h => by simp [h]⟩
theorem c_impl_IsFieldPrime (p : Int) : AC Try.prog 73 [int p] (.im (bool (isP p))) := by
  refine AC.go (rs := [.tmp 2]) T_ok mixed Try.func73 rfl rfl rfl (by kernel_rfl) fun hl => ?_
  simp (maxSteps := 5000000) -dsimp only [↓gp, gq, reduceCtorEq, Nat.reduceEqDiff, Nat.reduceLT, Nat.reduceLeDiff, Nat.reduceAdd, Nat.reduceMul, Nat.reduceSub, Nat.reduceBEq, Int.reduceToNat, Int.reduceLE, Int.reduceLT, Int.reduceNeg, Nat.reduceMod, sid_ne1, sid_ne2, sid_inj, sid_mod, gT, TK.isInt, TK.agg, Array.toList]
  unfold isP
  exact ⟨fun h => ⟨fun h2 => by simp [h, h2], fun h2 => by simp [h, h2]⟩, fun h => by simp [h]⟩
theorem tmod_small {a p : Int} (hp : 0 < p) : -p < a.tmod p ∧ a.tmod p < p := ⟨Int.lt_tmod_of_pos a hp, Int.tmod_lt_of_pos a hp⟩
theorem c_spec_l13Mod (a p : Int) (hp : isP p = true) : AC Try.prog 143 [int a, int p] (.im (int (a % p))) := by
  refine AC.go (rs := [.tmp 4]) T_ok mixed Try.func143 rfl rfl rfl (by kernel_rfl) fun hl => ?_
  have hp := isP_pos hp
  have h1 := tmod_small (a := a) (by omega : 0 < p)
  have hw : IntKind.i64.wrap (a.tmod p + p) = a.tmod p + p := wrap_id (by omega) (by omega)
  have hm := mod_add a p (by omega)
  simp (maxSteps := 5000000) -dsimp only [↓gp, gq, reduceCtorEq, Nat.reduceEqDiff, Nat.reduceLT, Nat.reduceLeDiff, Nat.reduceAdd, Nat.reduceMul, Nat.reduceSub, Nat.reduceBEq, Int.reduceToNat, Int.reduceLE, Int.reduceLT, Int.reduceNeg, Nat.reduceMod, sid_ne1, sid_ne2, sid_inj, sid_mod, gT, TK.isInt, TK.agg, Array.toList, hw, hm]
  omega
theorem c_impl_restMod (a p : Int) (hp : isP p = true) : AC Try.prog 146 [int a, int p] (.im (int (a % p))) := by
  refine AC.go (rs := [.tmp 4]) T_ok mixed Try.func146 rfl rfl rfl (by kernel_rfl) fun hl => ?_
  have hp := isP_pos hp
  have h1 := tmod_small (a := a) (by omega : 0 < p)
  have hw : IntKind.i64.wrap (a.tmod p + p) = a.tmod p + p := wrap_id (by omega) (by omega)
  have hm := mod_add a p (by omega)
  simp (maxSteps := 5000000) -dsimp only [↓gp, gq, reduceCtorEq, Nat.reduceEqDiff, Nat.reduceLT, Nat.reduceLeDiff, Nat.reduceAdd, Nat.reduceMul, Nat.reduceSub, Nat.reduceBEq, Int.reduceToNat, Int.reduceLE, Int.reduceLT, Int.reduceNeg, Nat.reduceMod, sid_ne1, sid_ne2, sid_inj, sid_mod, gT, TK.isInt, TK.agg, Array.toList, hw]
  refine ⟨by omega, fun h => ?_, fun h => ?_⟩
  · rw [← hm, tmod_nn (by omega), Int.emod_eq_of_lt (by omega) (by omega)]
  · rw [← hm, Int.tmod_eq_emod_of_nonneg (by omega), Int.add_emod_right, Int.emod_eq_of_lt (by omega) (by omega)]
theorem inv_step {p r b : Int} (h : b < p) : invFrom p r b (p - b).toNat = if r * b % p = 1 then b else invFrom p r (b + 1) (p - (b + 1)).toNat := by
  have e : (p - b).toNat = (p - (b + 1)).toNat + 1 := by omega
  rw [e, invFrom]
theorem c_spec_InverseMod (a p : Int) (hp : isP p = true) : AC Try.prog 150 [int a, int p] (.im (int (invM p a))) := by
  refine AC.go (rs := [.tmp 4]) T_ok mixed Try.func150 rfl rfl rfl (by kernel_rfl) fun hl => ?_
  have hp2 := isP_pos hp
  simp (maxSteps := 5000000) -dsimp only [↓gp, gq, reduceCtorEq, Nat.reduceEqDiff, Nat.reduceLT, Nat.reduceLeDiff, Nat.reduceAdd, Nat.reduceMul, Nat.reduceSub, Nat.reduceBEq, Int.reduceToNat, Int.reduceLE, Int.reduceLT, Int.reduceNeg, Nat.reduceMod, sid_ne1, sid_ne2, sid_inj, sid_mod, gT, TK.isInt, TK.agg, Array.toList]
  refine askK_of (c_spec_IsFieldPrime p) ?_
  simp (maxSteps := 5000000) -dsimp only [↓gp, gq, reduceCtorEq, Nat.reduceEqDiff, Nat.reduceLT, Nat.reduceLeDiff, Nat.reduceAdd, Nat.reduceMul, Nat.reduceSub, Nat.reduceBEq, Int.reduceToNat, Int.reduceLE, Int.reduceLT, Int.reduceNeg, Nat.reduceMod, sid_ne1, sid_ne2, sid_inj, sid_mod, gT, TK.isInt, TK.agg, Array.toList, hp]
  have hr := Int.emod_nonneg a (by omega : p ≠ 0)
  have hr2 := Int.emod_lt_of_pos a (by omega : 0 < p)
  refine loop_of (fun (b : Int) s => s.sl 0 = int a ∧ s.sl 1 = int p ∧ s.sl 5 = int b ∧ (1 ≤ b ∧ b ≤ p ∧ invM p a = invFrom p (a % p) b (p - b).toNat)) (fun b => (p - b).toNat) (1) (by refine ⟨?_, ?_, ?_, ⟨by omega, by omega, rfl⟩⟩ <;> (first | (simp (maxSteps := 5000000) -dsimp only [gr, Nat.reduceEqDiff, Nat.reduceLT, Nat.reduceAdd, Nat.reduceMod, Nat.reduceBEq, sid_mod, sid_ne1, sid_ne2, sid_inj]; first | done | rfl | (simp; done)) | assumption | rfl)) ?_
  intro b sa ⟨h0a, h1a, h5a, hIa⟩
  obtain ⟨hb, hb2, hv⟩ := hIa
  simp (maxSteps := 5000000) -dsimp only [↓gp, gq, reduceCtorEq, Nat.reduceEqDiff, Nat.reduceLT, Nat.reduceLeDiff, Nat.reduceAdd, Nat.reduceMul, Nat.reduceSub, Nat.reduceBEq, Int.reduceToNat, Int.reduceLE, Int.reduceLT, Int.reduceNeg, Nat.reduceMod, sid_ne1, sid_ne2, sid_inj, sid_mod, gT, TK.isInt, TK.agg, Array.toList, h0a, h1a, h5a]
  refine ⟨fun h => askK_of (c_spec_l13Mod a p hp) ?_, fun h => ?_⟩
  · have hm : 0 ≤ a % p * b ∧ a % p * b ≤ 20 := by
      refine ⟨Int.mul_nonneg hr (by omega), ?_⟩
      have := Int.mul_le_mul (show a % p ≤ 4 by omega) (show b ≤ 5 by omega) (by omega) (by omega)
      omega
    have hw : IntKind.i64.wrap (a % p * b) = a % p * b := wrap_id (by omega) (by omega)
    have hw2 : IntKind.i64.wrap (b + 1) = b + 1 := wrap_id (by omega) (by omega)
    simp (maxSteps := 5000000) -dsimp only [↓gp, gq, reduceCtorEq, Nat.reduceEqDiff, Nat.reduceLT, Nat.reduceLeDiff, Nat.reduceAdd, Nat.reduceMul, Nat.reduceSub, Nat.reduceBEq, Int.reduceToNat, Int.reduceLE, Int.reduceLT, Int.reduceNeg, Nat.reduceMod, sid_ne1, sid_ne2, sid_inj, sid_mod, gT, TK.isInt, TK.agg, Array.toList, h0a, h1a, h5a, hw, hw2, tmod_nn hm.1]
    refine ⟨by omega, fun h1 => ?_, fun h1 => again_of (b + 1) ⟨(by (first | (simp (maxSteps := 5000000) -dsimp only [gr, Nat.reduceEqDiff, Nat.reduceLT, Nat.reduceAdd, Nat.reduceMod, Nat.reduceBEq, sid_mod, sid_ne1, sid_ne2, sid_inj, h0a, h1a, h5a, hw2]; first | done | rfl | (simp; done)) | assumption | rfl)), (by (first | (simp (maxSteps := 5000000) -dsimp only [gr, Nat.reduceEqDiff, Nat.reduceLT, Nat.reduceAdd, Nat.reduceMod, Nat.reduceBEq, sid_mod, sid_ne1, sid_ne2, sid_inj, h0a, h1a, h5a, hw2]; first | done | rfl | (simp; done)) | assumption | rfl)), (by (first | (simp (maxSteps := 5000000) -dsimp only [gr, Nat.reduceEqDiff, Nat.reduceLT, Nat.reduceAdd, Nat.reduceMod, Nat.reduceBEq, sid_mod, sid_ne1, sid_ne2, sid_inj, h0a, h1a, h5a, hw2]; first | done | rfl | (simp; done)) | assumption | rfl)), ⟨by omega, by omega, ?_⟩⟩ (by first | omega | (simp only; omega) | (dsimp only; omega) | (show _ < _; simp; omega))⟩
    · have h1 := beq_iff_eq.1 h1
      rw [hv, inv_step h, if_pos h1]
    · have h1 : ¬ a % p * b % p = 1 := by simpa using h1
      rw [hv, inv_step h, if_neg h1]
  · have : (p - b).toNat = 0 := by omega
    rw [hv, this]; rfl
theorem c_impl_InverseMod (a p : Int) (hp : isP p = true) : AC Try.prog 145 [int a, int p] (.im (int (invM p a))) := by
  refine AC.go (rs := [.tmp 4]) T_ok mixed Try.func145 rfl rfl rfl (by kernel_rfl) fun hl => ?_
  have hp2 := isP_pos hp
  simp (maxSteps := 5000000) -dsimp only [↓gp, gq, reduceCtorEq, Nat.reduceEqDiff, Nat.reduceLT, Nat.reduceLeDiff, Nat.reduceAdd, Nat.reduceMul, Nat.reduceSub, Nat.reduceBEq, Int.reduceToNat, Int.reduceLE, Int.reduceLT, Int.reduceNeg, Nat.reduceMod, sid_ne1, sid_ne2, sid_inj, sid_mod, gT, TK.isInt, TK.agg, Array.toList]
  refine askK_of (c_impl_IsFieldPrime p) ?_
  simp (maxSteps := 5000000) -dsimp only [↓gp, gq, reduceCtorEq, Nat.reduceEqDiff, Nat.reduceLT, Nat.reduceLeDiff, Nat.reduceAdd, Nat.reduceMul, Nat.reduceSub, Nat.reduceBEq, Int.reduceToNat, Int.reduceLE, Int.reduceLT, Int.reduceNeg, Nat.reduceMod, sid_ne1, sid_ne2, sid_inj, sid_mod, gT, TK.isInt, TK.agg, Array.toList, hp]
  have hr := Int.emod_nonneg a (by omega : p ≠ 0)
  have hr2 := Int.emod_lt_of_pos a (by omega : 0 < p)
  refine askK_of (c_impl_restMod a p hp) ?_
  simp (maxSteps := 5000000) -dsimp only [↓gp, gq, reduceCtorEq, Nat.reduceEqDiff, Nat.reduceLT, Nat.reduceLeDiff, Nat.reduceAdd, Nat.reduceMul, Nat.reduceSub, Nat.reduceBEq, Int.reduceToNat, Int.reduceLE, Int.reduceLT, Int.reduceNeg, Nat.reduceMod, sid_ne1, sid_ne2, sid_inj, sid_mod, gT, TK.isInt, TK.agg, Array.toList]
  refine loop_of (fun (b : Int) s => s.sl 1 = int p ∧ s.sl 5 = int (a % p) ∧ s.sl 6 = int b ∧ (1 ≤ b ∧ b ≤ p ∧ invM p a = invFrom p (a % p) b (p - b).toNat)) (fun b => (p - b).toNat) (1) (by refine ⟨?_, ?_, ?_, ⟨by omega, by omega, rfl⟩⟩ <;> (first | (simp (maxSteps := 5000000) -dsimp only [gr, Nat.reduceEqDiff, Nat.reduceLT, Nat.reduceAdd, Nat.reduceMod, Nat.reduceBEq, sid_mod, sid_ne1, sid_ne2, sid_inj]; first | done | rfl | (simp; done)) | assumption | rfl)) ?_
  intro b sa ⟨h1a, h5a, h6a, hIa⟩
  obtain ⟨hb, hb2, hv⟩ := hIa
  have hm : 0 ≤ a % p * b ∧ a % p * b ≤ 20 := by
    refine ⟨Int.mul_nonneg hr (by omega), ?_⟩
    have := Int.mul_le_mul (show a % p ≤ 4 by omega) (show b ≤ 5 by omega) (by omega) (by omega)
    omega
  have hw : IntKind.i64.wrap (a % p * b) = a % p * b := wrap_id (by omega) (by omega)
  have hw2 : IntKind.i64.wrap (b + 1) = b + 1 := wrap_id (by omega) (by omega)
  simp (maxSteps := 5000000) -dsimp only [↓gp, gq, reduceCtorEq, Nat.reduceEqDiff, Nat.reduceLT, Nat.reduceLeDiff, Nat.reduceAdd, Nat.reduceMul, Nat.reduceSub, Nat.reduceBEq, Int.reduceToNat, Int.reduceLE, Int.reduceLT, Int.reduceNeg, Nat.reduceMod, sid_ne1, sid_ne2, sid_inj, sid_mod, gT, TK.isInt, TK.agg, Array.toList, h1a, h5a, h6a, hw, hw2, tmod_nn hm.1]
  refine ⟨fun h => ⟨by omega, fun h1 => ?_, fun h1 => again_of (b + 1) ⟨(by (first | (simp (maxSteps := 5000000) -dsimp only [gr, Nat.reduceEqDiff, Nat.reduceLT, Nat.reduceAdd, Nat.reduceMod, Nat.reduceBEq, sid_mod, sid_ne1, sid_ne2, sid_inj, h1a, h5a, h6a, hw2]; first | done | rfl | (simp; done)) | assumption | rfl)), (by (first | (simp (maxSteps := 5000000) -dsimp only [gr, Nat.reduceEqDiff, Nat.reduceLT, Nat.reduceAdd, Nat.reduceMod, Nat.reduceBEq, sid_mod, sid_ne1, sid_ne2, sid_inj, h1a, h5a, h6a, hw2]; first | done | rfl | (simp; done)) | assumption | rfl)), (by (first | (simp (maxSteps := 5000000) -dsimp only [gr, Nat.reduceEqDiff, Nat.reduceLT, Nat.reduceAdd, Nat.reduceMod, Nat.reduceBEq, sid_mod, sid_ne1, sid_ne2, sid_inj, h1a, h5a, h6a, hw2]; first | done | rfl | (simp; done)) | assumption | rfl)), ⟨by omega, by omega, ?_⟩⟩ (by first | omega | (simp only; omega) | (dsimp only; omega) | (show _ < _; simp; omega))⟩, fun h => ?_⟩
  · have h1 := beq_iff_eq.1 h1
    rw [hv, inv_step h, if_pos h1]
  · have h1 : ¬ a % p * b % p = 1 := by simpa using h1
    rw [hv, inv_step h, if_neg h1]
  · have : (p - b).toNat = 0 := by omega
    rw [hv, this]; rfl
end Go.Proofs.Ytlapkhmehcnjeaa

namespace Go.Proofs.Ytlapkhmehcnjeaa
open Go.Abs
set_option linter.unusedSimpArgs false
set_option linter.unusedVariables false

theorem mod_getD (p : Int) {r : List Int} {j : Nat} (h : j < r.length) : (r.map fun x => x % p).getD j 0 = r.getD j 0 % p := by simp [List.getD, h]
theorem modM_take (p : Int) {M : Mat} {i : Nat} (h : i < M.length) : modM p (M.take i) ++ [(M.getD i []).map fun x => x % p] = modM p (M.take (i + 1)) := by
  rw [take_snoc [] h]; simp [modM]
theorem modM_take_len (p : Int) {M : Mat} {i : Nat} (h : i ≤ M.length) : (modM p (M.take i)).length = i := by simp [modM]; omega
theorem c_impl_modMatrix (M : Mat) (p : Int) (hp : isP p = true) (hM : M.length ≤ 900) (hr : ∀ i, i < M.length → (M.getD i []).length ≤ 1000) : AC Try.prog 136 [int2 M, int p] (.tb 22 3 ((modM p M).map iL)) := by
  refine AC.go (rs := [.tmp 4]) T_ok mixed Try.func136 rfl rfl rfl (by kernel_rfl) fun hl => ?_
  simp (maxSteps := 5000000) -dsimp only [↓gp, gq, reduceCtorEq, Nat.reduceEqDiff, Nat.reduceLT, Nat.reduceLeDiff, Nat.reduceAdd, Nat.reduceMul, Nat.reduceSub, Nat.reduceBEq, Int.reduceToNat, Int.reduceLE, Int.reduceLT, Int.reduceNeg, Nat.reduceMod, sid_ne1, sid_ne2, sid_inj, sid_mod, gT, TK.isInt, TK.agg, Array.toList]
  refine ⟨by omega, by omega, ?_⟩
  refine loop_ini (k := 12) (v := 1) (e := 22) (e2 := 3) (n := M.length) (by simp (maxSteps := 5000000) -dsimp only [gr, Nat.reduceEqDiff, Nat.reduceLT, Nat.reduceAdd, Nat.reduceMod, Nat.reduceBEq, sid_mod, sid_ne1, sid_ne2, sid_inj]) (fun j => by simp (maxSteps := 5000000) -dsimp only [gr, Nat.reduceEqDiff, Nat.reduceLT, Nat.reduceAdd, Nat.reduceMod, Nat.reduceBEq, sid_mod, sid_ne1, sid_ne2, sid_inj]) (fun (i : Nat) s => s.sl 0 = int2 M ∧ s.sl 1 = int p ∧ s.sl 5 = .own 12 1 ∧ s.sl 13 = int2 M ∧ s.sl 14 = int M.length ∧ s.sl 15 = int i ∧ (i ≤ M.length ∧ TabP s.rw 12 1 22 3 M.length i (modM p (M.take i)))) (fun i => M.length - i) (0) (fun sX htX hslX hoX => (by refine ⟨?_, ?_, ?_, ?_, ?_, ?_, ⟨by omega, htX⟩⟩ <;> (first | (simp (maxSteps := 5000000) -dsimp only [gr, Nat.reduceEqDiff, Nat.reduceLT, Nat.reduceAdd, Nat.reduceMod, Nat.reduceBEq, sid_mod, sid_ne1, sid_ne2, sid_inj, hslX, hoX]; first | done | rfl | (simp; done)) | assumption | rfl))) ?_
  intro i sa ⟨h0a, h1a, h5a, h13a, h14a, h15a, hIa⟩
  obtain ⟨hi, ht⟩ := hIa
  simp (maxSteps := 5000000) -dsimp only [↓gp, gq, reduceCtorEq, Nat.reduceEqDiff, Nat.reduceLT, Nat.reduceLeDiff, Nat.reduceAdd, Nat.reduceMul, Nat.reduceSub, Nat.reduceBEq, Int.reduceToNat, Int.reduceLE, Int.reduceLT, Int.reduceNeg, Nat.reduceMod, sid_ne1, sid_ne2, sid_inj, sid_mod, gT, TK.isInt, TK.agg, Array.toList, h0a, h1a, h5a, h13a, h14a, h15a, ht.top, tabC_length]
  refine ⟨fun h => ⟨h, h, by have := hr i h; omega, by have := hr i h; omega, h, by omega, ?_⟩, fun h => ?_⟩
  · have hri := hr i h
    have hlen := modM_take_len p hi
    generalize hrow : M.getD i [] = row at *
    refine loop_push (k := 12) (v := 1) (e := 22) (e2 := 3) (n := M.length) (i := i) (d := 24) (vd := (sa.rw 24).ver + 1) (M := modM p (M.take i)) (r := List.replicate row.length 0) (by simp (maxSteps := 5000000) -dsimp only [gr, Nat.reduceEqDiff, Nat.reduceLT, Nat.reduceAdd, Nat.reduceMod, Nat.reduceBEq, sid_mod, sid_ne1, sid_ne2, sid_inj, ht.top]) hlen (fun j hj => by simp (maxSteps := 5000000) -dsimp only [gr, Nat.reduceEqDiff, Nat.reduceLT, Nat.reduceAdd, Nat.reduceMod, Nat.reduceBEq, sid_mod, sid_ne1, sid_ne2, sid_inj, ht.row j hj]) (fun j hj => by simp (maxSteps := 5000000) -dsimp only [gr, Nat.reduceEqDiff, Nat.reduceLT, Nat.reduceAdd, Nat.reduceMod, Nat.reduceBEq, sid_mod, sid_ne1, sid_ne2, sid_inj, ht.rest j hj]) (by simp (maxSteps := 5000000) -dsimp only [gr, Nat.reduceEqDiff, Nat.reduceLT, Nat.reduceAdd, Nat.reduceMod, Nat.reduceBEq, sid_mod, sid_ne1, sid_ne2, sid_inj]) (by decide) (by decide) h (fun (j : Nat) s => s.sl 0 = int2 M ∧ s.sl 1 = int p ∧ s.sl 5 = .own 12 1 ∧ s.sl 13 = int2 M ∧ s.sl 14 = int M.length ∧ s.sl 15 = int i ∧ s.sl 6 = int i ∧ s.sl 7 = ints row ∧ s.sl 26 = ints row ∧ s.sl 27 = int row.length ∧ s.sl 28 = int j ∧ (j ≤ row.length ∧ TabP s.rw 12 1 22 3 M.length (i + 1) (modM p (M.take i) ++ [prt (row.map fun x => x % p) (List.replicate row.length 0) j]))) (fun j => row.length - j) (0) (fun sX htX hslX hoX => (by refine ⟨?_, ?_, ?_, ?_, ?_, ?_, ?_, ?_, ?_, ?_, ?_, ⟨by omega, by rw [prt_zero]; exact htX⟩⟩ <;> (first | (simp (maxSteps := 5000000) -dsimp only [gr, Nat.reduceEqDiff, Nat.reduceLT, Nat.reduceAdd, Nat.reduceMod, Nat.reduceBEq, sid_mod, sid_ne1, sid_ne2, sid_inj, hslX, hoX, h0a, h1a, h5a, h13a, h14a, h15a]; first | done | rfl | (simp; done)) | assumption | rfl))) ?_
    intro j sb ⟨h0b, h1b, h5b, h13b, h14b, h15b, h6b, h7b, h26b, h27b, h28b, hIb⟩
    obtain ⟨hj, ht2⟩ := hIb
    have hrr := ht2.row i (by omega)
    rw [snoc_last hlen] at hrr
    have hpl : ∀ t, (prt (row.map fun x => x % p) (List.replicate row.length 0) t).length = row.length := fun t => by rw [prt_length (by simp)]; simp
    simp (maxSteps := 5000000) -dsimp only [↓gp, gq, reduceCtorEq, Nat.reduceEqDiff, Nat.reduceLT, Nat.reduceLeDiff, Nat.reduceAdd, Nat.reduceMul, Nat.reduceSub, Nat.reduceBEq, Int.reduceToNat, Int.reduceLE, Int.reduceLT, Int.reduceNeg, Nat.reduceMod, sid_ne1, sid_ne2, sid_inj, sid_mod, gT, TK.isInt, TK.agg, Array.toList, h0b, h1b, h5b, h13b, h14b, h15b, h6b, h7b, h26b, h27b, h28b, ht2.top, ld_tabC, hrr, hpl, tabC_length]
    refine ⟨fun h2 => ⟨h2, h2, by kernel_rfl, h, h, askK_of (c_impl_restMod _ p hp) ?_⟩, fun h2 => ?_⟩
    · simp (maxSteps := 5000000) -dsimp only [↓gp, gq, reduceCtorEq, Nat.reduceEqDiff, Nat.reduceLT, Nat.reduceLeDiff, Nat.reduceAdd, Nat.reduceMul, Nat.reduceSub, Nat.reduceBEq, Int.reduceToNat, Int.reduceLE, Int.reduceLT, Int.reduceNeg, Nat.reduceMod, sid_ne1, sid_ne2, sid_inj, sid_mod, gT, TK.isInt, TK.agg, Array.toList, h0b, h1b, h5b, h13b, h14b, h15b, h6b, h7b, h26b, h27b, h28b, ht2.top, ld_tabC, hrr, hpl, tabC_length]
      refine ⟨h2, by omega, by kernel_rfl, again_of (j + 1) ⟨(by (first | (simp (maxSteps := 5000000) -dsimp only [gr, Nat.reduceEqDiff, Nat.reduceLT, Nat.reduceAdd, Nat.reduceMod, Nat.reduceBEq, sid_mod, sid_ne1, sid_ne2, sid_inj, h0b, h1b, h5b, h13b, h14b, h15b, h6b, h7b, h26b, h27b, h28b, wrap_nat h2 (by omega)]; first | done | rfl | (simp; done)) | assumption | rfl)), (by (first | (simp (maxSteps := 5000000) -dsimp only [gr, Nat.reduceEqDiff, Nat.reduceLT, Nat.reduceAdd, Nat.reduceMod, Nat.reduceBEq, sid_mod, sid_ne1, sid_ne2, sid_inj, h0b, h1b, h5b, h13b, h14b, h15b, h6b, h7b, h26b, h27b, h28b, wrap_nat h2 (by omega)]; first | done | rfl | (simp; done)) | assumption | rfl)), (by (first | (simp (maxSteps := 5000000) -dsimp only [gr, Nat.reduceEqDiff, Nat.reduceLT, Nat.reduceAdd, Nat.reduceMod, Nat.reduceBEq, sid_mod, sid_ne1, sid_ne2, sid_inj, h0b, h1b, h5b, h13b, h14b, h15b, h6b, h7b, h26b, h27b, h28b, wrap_nat h2 (by omega)]; first | done | rfl | (simp; done)) | assumption | rfl)), (by (first | (simp (maxSteps := 5000000) -dsimp only [gr, Nat.reduceEqDiff, Nat.reduceLT, Nat.reduceAdd, Nat.reduceMod, Nat.reduceBEq, sid_mod, sid_ne1, sid_ne2, sid_inj, h0b, h1b, h5b, h13b, h14b, h15b, h6b, h7b, h26b, h27b, h28b, wrap_nat h2 (by omega)]; first | done | rfl | (simp; done)) | assumption | rfl)), (by (first | (simp (maxSteps := 5000000) -dsimp only [gr, Nat.reduceEqDiff, Nat.reduceLT, Nat.reduceAdd, Nat.reduceMod, Nat.reduceBEq, sid_mod, sid_ne1, sid_ne2, sid_inj, h0b, h1b, h5b, h13b, h14b, h15b, h6b, h7b, h26b, h27b, h28b, wrap_nat h2 (by omega)]; first | done | rfl | (simp; done)) | assumption | rfl)), (by (first | (simp (maxSteps := 5000000) -dsimp only [gr, Nat.reduceEqDiff, Nat.reduceLT, Nat.reduceAdd, Nat.reduceMod, Nat.reduceBEq, sid_mod, sid_ne1, sid_ne2, sid_inj, h0b, h1b, h5b, h13b, h14b, h15b, h6b, h7b, h26b, h27b, h28b, wrap_nat h2 (by omega)]; first | done | rfl | (simp; done)) | assumption | rfl)), (by (first | (simp (maxSteps := 5000000) -dsimp only [gr, Nat.reduceEqDiff, Nat.reduceLT, Nat.reduceAdd, Nat.reduceMod, Nat.reduceBEq, sid_mod, sid_ne1, sid_ne2, sid_inj, h0b, h1b, h5b, h13b, h14b, h15b, h6b, h7b, h26b, h27b, h28b, wrap_nat h2 (by omega)]; first | done | rfl | (simp; done)) | assumption | rfl)), (by (first | (simp (maxSteps := 5000000) -dsimp only [gr, Nat.reduceEqDiff, Nat.reduceLT, Nat.reduceAdd, Nat.reduceMod, Nat.reduceBEq, sid_mod, sid_ne1, sid_ne2, sid_inj, h0b, h1b, h5b, h13b, h14b, h15b, h6b, h7b, h26b, h27b, h28b, wrap_nat h2 (by omega)]; first | done | rfl | (simp; done)) | assumption | rfl)), (by (first | (simp (maxSteps := 5000000) -dsimp only [gr, Nat.reduceEqDiff, Nat.reduceLT, Nat.reduceAdd, Nat.reduceMod, Nat.reduceBEq, sid_mod, sid_ne1, sid_ne2, sid_inj, h0b, h1b, h5b, h13b, h14b, h15b, h6b, h7b, h26b, h27b, h28b, wrap_nat h2 (by omega)]; first | done | rfl | (simp; done)) | assumption | rfl)), (by (first | (simp (maxSteps := 5000000) -dsimp only [gr, Nat.reduceEqDiff, Nat.reduceLT, Nat.reduceAdd, Nat.reduceMod, Nat.reduceBEq, sid_mod, sid_ne1, sid_ne2, sid_inj, h0b, h1b, h5b, h13b, h14b, h15b, h6b, h7b, h26b, h27b, h28b, wrap_nat h2 (by omega)]; first | done | rfl | (simp; done)) | assumption | rfl)), (by (first | (simp (maxSteps := 5000000) -dsimp only [gr, Nat.reduceEqDiff, Nat.reduceLT, Nat.reduceAdd, Nat.reduceMod, Nat.reduceBEq, sid_mod, sid_ne1, sid_ne2, sid_inj, h0b, h1b, h5b, h13b, h14b, h15b, h6b, h7b, h26b, h27b, h28b, wrap_nat h2 (by omega)]; first | done | rfl | (simp; done)) | assumption | rfl)), ⟨by omega, ?_⟩⟩ (by first | omega | (simp only; omega) | (dsimp only; omega) | (show _ < _; simp; omega))⟩
      have e : modM p (M.take i) ++ [prt (row.map fun x => x % p) (List.replicate row.length 0) (j + 1)] = (modM p (M.take i) ++ [prt (row.map fun x => x % p) (List.replicate row.length 0) j]).set i ((prt (row.map fun x => x % p) (List.replicate row.length 0) j).set j (row.getD j 0 % p)) := by
        rw [snoc_set hlen, ← prt_set (by simp) (by simpa using h2), mod_getD p h2]
      rw [e]
      exact ht2.set (by omega) (by simp (maxSteps := 5000000) -dsimp only [gr, Nat.reduceEqDiff, Nat.reduceLT, Nat.reduceAdd, Nat.reduceMod, Nat.reduceBEq, sid_mod, sid_ne1, sid_ne2, sid_inj, h0b, h1b, h5b, h13b, h14b, h15b, h6b, h7b, h26b, h27b, h28b]) (by simp (maxSteps := 5000000) -dsimp only [gr, Nat.reduceEqDiff, Nat.reduceLT, Nat.reduceAdd, Nat.reduceMod, Nat.reduceBEq, sid_mod, sid_ne1, sid_ne2, sid_inj, h0b, h1b, h5b, h13b, h14b, h15b, h6b, h7b, h26b, h27b, h28b]) (fun x hx => by simp (maxSteps := 5000000) -dsimp only [gr, Nat.reduceEqDiff, Nat.reduceLT, Nat.reduceAdd, Nat.reduceMod, Nat.reduceBEq, sid_mod, sid_ne1, sid_ne2, sid_inj, h0b, h1b, h5b, h13b, h14b, h15b, h6b, h7b, h26b, h27b, h28b, hx])
    · have : j = row.length := by omega
      subst this
      refine again_of (i + 1) ⟨(by (first | (simp (maxSteps := 5000000) -dsimp only [gr, Nat.reduceEqDiff, Nat.reduceLT, Nat.reduceAdd, Nat.reduceMod, Nat.reduceBEq, sid_mod, sid_ne1, sid_ne2, sid_inj, h0a, h1a, h5a, h13a, h14a, h15a, h0b, h1b, h5b, h13b, h14b, h15b, h6b, h7b, h26b, h27b, h28b, wrap_nat h (by omega)]; first | done | rfl | (simp; done)) | assumption | rfl)), (by (first | (simp (maxSteps := 5000000) -dsimp only [gr, Nat.reduceEqDiff, Nat.reduceLT, Nat.reduceAdd, Nat.reduceMod, Nat.reduceBEq, sid_mod, sid_ne1, sid_ne2, sid_inj, h0a, h1a, h5a, h13a, h14a, h15a, h0b, h1b, h5b, h13b, h14b, h15b, h6b, h7b, h26b, h27b, h28b, wrap_nat h (by omega)]; first | done | rfl | (simp; done)) | assumption | rfl)), (by (first | (simp (maxSteps := 5000000) -dsimp only [gr, Nat.reduceEqDiff, Nat.reduceLT, Nat.reduceAdd, Nat.reduceMod, Nat.reduceBEq, sid_mod, sid_ne1, sid_ne2, sid_inj, h0a, h1a, h5a, h13a, h14a, h15a, h0b, h1b, h5b, h13b, h14b, h15b, h6b, h7b, h26b, h27b, h28b, wrap_nat h (by omega)]; first | done | rfl | (simp; done)) | assumption | rfl)), (by (first | (simp (maxSteps := 5000000) -dsimp only [gr, Nat.reduceEqDiff, Nat.reduceLT, Nat.reduceAdd, Nat.reduceMod, Nat.reduceBEq, sid_mod, sid_ne1, sid_ne2, sid_inj, h0a, h1a, h5a, h13a, h14a, h15a, h0b, h1b, h5b, h13b, h14b, h15b, h6b, h7b, h26b, h27b, h28b, wrap_nat h (by omega)]; first | done | rfl | (simp; done)) | assumption | rfl)), (by (first | (simp (maxSteps := 5000000) -dsimp only [gr, Nat.reduceEqDiff, Nat.reduceLT, Nat.reduceAdd, Nat.reduceMod, Nat.reduceBEq, sid_mod, sid_ne1, sid_ne2, sid_inj, h0a, h1a, h5a, h13a, h14a, h15a, h0b, h1b, h5b, h13b, h14b, h15b, h6b, h7b, h26b, h27b, h28b, wrap_nat h (by omega)]; first | done | rfl | (simp; done)) | assumption | rfl)), (by (first | (simp (maxSteps := 5000000) -dsimp only [gr, Nat.reduceEqDiff, Nat.reduceLT, Nat.reduceAdd, Nat.reduceMod, Nat.reduceBEq, sid_mod, sid_ne1, sid_ne2, sid_inj, h0a, h1a, h5a, h13a, h14a, h15a, h0b, h1b, h5b, h13b, h14b, h15b, h6b, h7b, h26b, h27b, h28b, wrap_nat h (by omega)]; first | done | rfl | (simp; done)) | assumption | rfl)), ⟨by omega, ?_⟩⟩ (by first | omega | (simp only; omega) | (dsimp only; omega) | (show _ < _; simp; omega))
      have e : prt (row.map fun x => x % p) (List.replicate row.length 0) row.length = row.map fun x => x % p := by
        have := prt_end (new := row.map fun x => x % p) (old := List.replicate row.length 0) (by simp)
        simpa using this
      have ht3 := ht2
      rw [e, ← hrow, modM_take p h] at ht3
      exact ht3.same (by simp (maxSteps := 5000000) -dsimp only [gr, Nat.reduceEqDiff, Nat.reduceLT, Nat.reduceAdd, Nat.reduceMod, Nat.reduceBEq, sid_mod, sid_ne1, sid_ne2, sid_inj]) (fun x => by simp (maxSteps := 5000000) -dsimp only [gr, Nat.reduceEqDiff, Nat.reduceLT, Nat.reduceAdd, Nat.reduceMod, Nat.reduceBEq, sid_mod, sid_ne1, sid_ne2, sid_inj])
  · have : i = M.length := by omega
    subst this
    rw [List.take_length] at ht
    exact out2_tabI ht.done (by decide) (fun j hj => by have := List.mem_range.1 hj; omega)
end Go.Proofs.Ytlapkhmehcnjeaa

namespace Go.Proofs.Ytlapkhmehcnjeaa
open Go.Abs
set_option linter.unusedSimpArgs false
set_option linter.unusedVariables false

theorem mul_small {a b p : Int} (h1 : 0 ≤ a ∧ a < p) (h2 : 0 ≤ b ∧ b ≤ 5) (hp : p ≤ 5) : 0 ≤ a * b ∧ a * b ≤ 25 := by
  refine ⟨Int.mul_nonneg h1.1 h2.1, ?_⟩
  have := Int.mul_le_mul (show a ≤ 5 by omega) h2.2 h2.1 (by omega)
  omega
theorem prt_same (l : List Int) (j : Nat) : prt l l j = l := by simp [prt]
theorem c_spec_l13Clear (M : Mat) (n a c : Nat) (p : Int) (hp : isP p = true) (hM : MatOk p n M) (ha : a < M.length) (hc : c < n) (hn : n ≤ 1000) : AT Try.prog 144 [.own 1000000 1, int a, int c, int p] 22 3 (M.map iL) ((clearM p a c M).map iL) .self := by
  refine AT.goI (rs := [.tmp 8]) T_ok mixed Try.func144 rfl rfl rfl (by kernel_rfl) (clearM_length p a c M) fun hl s hs hlow ht => ?_
  have hp2 := isP_pos hp
  have hlen := hM.len a ha
  have hres := hM.res a ha
  have hac := hres c
  have hra := ht.row ha
  have hq : ∀ i, i < M.length → (List.range M.length).getD i 0 = i := fun i hi => by simp [List.getD, hi]
  rw [hq a ha] at hra
  simp (maxSteps := 5000000) -dsimp only [↓gp, gq, reduceCtorEq, Nat.reduceEqDiff, Nat.reduceLT, Nat.reduceLeDiff, Nat.reduceAdd, Nat.reduceMul, Nat.reduceSub, Nat.reduceBEq, Int.reduceToNat, Int.reduceLE, Int.reduceLT, Int.reduceNeg, Nat.reduceMod, sid_ne1, sid_ne2, sid_inj, sid_mod, gT, TK.isInt, TK.agg, Array.toList, hs, hlow, ht.top, hra, hq a ha]
  refine ⟨ha, ha, by omega, by omega, askK_of (c_spec_InverseMod _ p hp) ?_⟩
  generalize hb : invM p ((M.getD a []).getD c 0) = b at *
  have hbb := invM_le hp ((M.getD a []).getD c 0)
  rw [hb] at hbb
  simp (maxSteps := 5000000) -dsimp only [↓gp, gq, reduceCtorEq, Nat.reduceEqDiff, Nat.reduceLT, Nat.reduceLeDiff, Nat.reduceAdd, Nat.reduceMul, Nat.reduceSub, Nat.reduceBEq, Int.reduceToNat, Int.reduceLE, Int.reduceLT, Int.reduceNeg, Nat.reduceMod, sid_ne1, sid_ne2, sid_inj, sid_mod, gT, TK.isInt, TK.agg, Array.toList, hs, hlow]
  generalize hold : M.getD a [] = old at *
  refine loop_of (fun (j : Nat) s => s.sl 0 = .own 1000000 1 ∧ s.sl 1 = int a ∧ s.sl 2 = int c ∧ s.sl 3 = int p ∧ s.sl 9 = int b ∧ s.sl 10 = int j ∧ (j ≤ n ∧ TabI s.rw 1000000 1 22 3 (List.range M.length) (M.set a (prt (scl p b old) old j)))) (fun j => n - j) (0) (by refine ⟨?_, ?_, ?_, ?_, ?_, ?_, ⟨by omega, by rw [prt_zero, ← hold, set_self_getD]; exact ht.same (by simp (maxSteps := 5000000) -dsimp only [gr, Nat.reduceEqDiff, Nat.reduceLT, Nat.reduceAdd, Nat.reduceMod, Nat.reduceBEq, sid_mod, sid_ne1, sid_ne2, sid_inj]) (fun x => by simp (maxSteps := 5000000) -dsimp only [gr, Nat.reduceEqDiff, Nat.reduceLT, Nat.reduceAdd, Nat.reduceMod, Nat.reduceBEq, sid_mod, sid_ne1, sid_ne2, sid_inj])⟩⟩ <;> (first | (simp (maxSteps := 5000000) -dsimp only [gr, Nat.reduceEqDiff, Nat.reduceLT, Nat.reduceAdd, Nat.reduceMod, Nat.reduceBEq, sid_mod, sid_ne1, sid_ne2, sid_inj, hs]; first | done | rfl | (simp; done)) | assumption | rfl)) ?_
  intro j sa ⟨h0a, h1a, h2a, h3a, h9a, h10a, hIa⟩
  obtain ⟨hj, ht1⟩ := hIa
  have hset : a < (M.set a (prt (scl p b old) old j)).length := by simpa using ha
  have hr1 := ht1.row hset
  have hpl : (prt (scl p b old) old j).length = n := by rw [prt_length (scl_length p b old)]; exact hlen
  rw [getM_set_self ha, hq a ha] at hr1
  have hpj := prt_getD (scl_length p b old) (Nat.le_refl j)
  have hoj := hres j
  have hmb := mul_small hoj ⟨hbb.1, by omega⟩ hp2.2
  have hw : IntKind.i64.wrap (old.getD j 0 * b) = old.getD j 0 * b := wrap_id (by omega) (by omega)
  simp (maxSteps := 5000000) -dsimp only [↓gp, gq, reduceCtorEq, Nat.reduceEqDiff, Nat.reduceLT, Nat.reduceLeDiff, Nat.reduceAdd, Nat.reduceMul, Nat.reduceSub, Nat.reduceBEq, Int.reduceToNat, Int.reduceLE, Int.reduceLT, Int.reduceNeg, Nat.reduceMod, sid_ne1, sid_ne2, sid_inj, sid_mod, gT, TK.isInt, TK.agg, Array.toList, h0a, h1a, h2a, h3a, h9a, h10a, ht1.top, hr1, hq a ha, hpl, hpj, hw, tmod_nn hmb.1]
  refine ⟨ha, ha, fun h => ⟨by kernel_rfl, ha, ha, ha, ha, h, h, by omega, h, by omega, by kernel_rfl, ?_⟩, fun h => ?_⟩
  · refine again_of (j + 1) ⟨(by (first | (simp (maxSteps := 5000000) -dsimp only [gr, Nat.reduceEqDiff, Nat.reduceLT, Nat.reduceAdd, Nat.reduceMod, Nat.reduceBEq, sid_mod, sid_ne1, sid_ne2, sid_inj, h0a, h1a, h2a, h3a, h9a, h10a, wrap_nat h (by omega)]; first | done | rfl | (simp; done)) | assumption | rfl)), (by (first | (simp (maxSteps := 5000000) -dsimp only [gr, Nat.reduceEqDiff, Nat.reduceLT, Nat.reduceAdd, Nat.reduceMod, Nat.reduceBEq, sid_mod, sid_ne1, sid_ne2, sid_inj, h0a, h1a, h2a, h3a, h9a, h10a, wrap_nat h (by omega)]; first | done | rfl | (simp; done)) | assumption | rfl)), (by (first | (simp (maxSteps := 5000000) -dsimp only [gr, Nat.reduceEqDiff, Nat.reduceLT, Nat.reduceAdd, Nat.reduceMod, Nat.reduceBEq, sid_mod, sid_ne1, sid_ne2, sid_inj, h0a, h1a, h2a, h3a, h9a, h10a, wrap_nat h (by omega)]; first | done | rfl | (simp; done)) | assumption | rfl)), (by (first | (simp (maxSteps := 5000000) -dsimp only [gr, Nat.reduceEqDiff, Nat.reduceLT, Nat.reduceAdd, Nat.reduceMod, Nat.reduceBEq, sid_mod, sid_ne1, sid_ne2, sid_inj, h0a, h1a, h2a, h3a, h9a, h10a, wrap_nat h (by omega)]; first | done | rfl | (simp; done)) | assumption | rfl)), (by (first | (simp (maxSteps := 5000000) -dsimp only [gr, Nat.reduceEqDiff, Nat.reduceLT, Nat.reduceAdd, Nat.reduceMod, Nat.reduceBEq, sid_mod, sid_ne1, sid_ne2, sid_inj, h0a, h1a, h2a, h3a, h9a, h10a, wrap_nat h (by omega)]; first | done | rfl | (simp; done)) | assumption | rfl)), (by (first | (simp (maxSteps := 5000000) -dsimp only [gr, Nat.reduceEqDiff, Nat.reduceLT, Nat.reduceAdd, Nat.reduceMod, Nat.reduceBEq, sid_mod, sid_ne1, sid_ne2, sid_inj, h0a, h1a, h2a, h3a, h9a, h10a, wrap_nat h (by omega)]; first | done | rfl | (simp; done)) | assumption | rfl)), ⟨by omega, ?_⟩⟩ (by first | omega | (simp only; omega) | (dsimp only; omega) | (show _ < _; simp; omega))
    have e : M.set a (prt (scl p b old) old (j + 1)) = (M.set a (prt (scl p b old) old j)).set a ((prt (scl p b old) old j).set j (old.getD j 0 * b % p)) := by
      rw [set_set, ← prt_set (scl_length p b old) (by omega), scl_getD p b (by omega)]
    rw [e]
    refine ht1.set hset (by simp (maxSteps := 5000000) -dsimp only [gr, Nat.reduceEqDiff, Nat.reduceLT, Nat.reduceAdd, Nat.reduceMod, Nat.reduceBEq, sid_mod, sid_ne1, sid_ne2, sid_inj, h0a, h1a, h2a, h3a, h9a, h10a]) ?_ (fun x hx => ?_)
    · rw [hq a ha]; simp (maxSteps := 5000000) -dsimp only [gr, Nat.reduceEqDiff, Nat.reduceLT, Nat.reduceAdd, Nat.reduceMod, Nat.reduceBEq, sid_mod, sid_ne1, sid_ne2, sid_inj, h0a, h1a, h2a, h3a, h9a, h10a]
    · rw [hq a ha] at hx
      simp (maxSteps := 5000000) -dsimp only [gr, Nat.reduceEqDiff, Nat.reduceLT, Nat.reduceAdd, Nat.reduceMod, Nat.reduceBEq, sid_mod, sid_ne1, sid_ne2, sid_inj, h0a, h1a, h2a, h3a, h9a, h10a, hx]
  have : j = n := by omega
  subst this
  have hend : prt (scl p b old) old j = scl p b old := by rw [← hlen]; exact prt_end (scl_length p b old)
  rw [hend] at ht1
  have hclr : M.set a (scl p b old) = clr1 p a c M := by unfold clr1; rw [hold, hb]
  rw [hclr] at ht1
  have hM1 := clr1_ok (p := p) (n := j) (at' := a) (col := c) (by omega) hM ha
  have hl1 : (clr1 p a c M).length = M.length := clr1_length p a c M
  have hgoal : clearM p a c M = clrN p a c (clr1 p a c M) M.length := rfl
  rw [hgoal]
  generalize clr1 p a c M = M1 at *
  refine loop_of (fun (i : Nat) s => s.sl 0 = .own 1000000 1 ∧ s.sl 1 = int a ∧ s.sl 2 = int c ∧ s.sl 3 = int p ∧ s.sl 11 = int i ∧ (i ≤ M.length ∧ TabI s.rw 1000000 1 22 3 (List.range M.length) (clrN p a c M1 i))) (fun i => M.length - i) (0) (by refine ⟨?_, ?_, ?_, ?_, ?_, ⟨by omega, by rw [clrN_zero]; exact ht1.same (by simp (maxSteps := 5000000) -dsimp only [gr, Nat.reduceEqDiff, Nat.reduceLT, Nat.reduceAdd, Nat.reduceMod, Nat.reduceBEq, sid_mod, sid_ne1, sid_ne2, sid_inj]) (fun x => by simp (maxSteps := 5000000) -dsimp only [gr, Nat.reduceEqDiff, Nat.reduceLT, Nat.reduceAdd, Nat.reduceMod, Nat.reduceBEq, sid_mod, sid_ne1, sid_ne2, sid_inj])⟩⟩ <;> (first | (simp (maxSteps := 5000000) -dsimp only [gr, Nat.reduceEqDiff, Nat.reduceLT, Nat.reduceAdd, Nat.reduceMod, Nat.reduceBEq, sid_mod, sid_ne1, sid_ne2, sid_inj, h0a, h1a, h2a, h3a, h9a, h10a]; first | done | rfl | (simp; done)) | assumption | rfl)) ?_
  intro i sb ⟨h0b, h1b, h2b, h3b, h11b, hIb⟩
  obtain ⟨hi, ht2⟩ := hIb
  have hlN : (clrN p a c M1 i).length = M.length := by rw [clrN_length, hl1]
  simp (maxSteps := 5000000) -dsimp only [↓gp, gq, reduceCtorEq, Nat.reduceEqDiff, Nat.reduceLT, Nat.reduceLeDiff, Nat.reduceAdd, Nat.reduceMul, Nat.reduceSub, Nat.reduceBEq, Int.reduceToNat, Int.reduceLE, Int.reduceLT, Int.reduceNeg, Nat.reduceMod, sid_ne1, sid_ne2, sid_inj, sid_mod, gT, TK.isInt, TK.agg, Array.toList, h0b, h1b, h2b, h3b, h11b, ht2.top]
  refine ⟨fun h => ?_, fun h => ?_⟩
  · have hi1 : i < M1.length := by omega
    have hr2 := ht2.row (i := i) (by omega)
    rw [clrN_ge p a c hi1 (Nat.le_refl i), hq i h] at hr2
    have hl2 := hM1.len i hi1
    have hres2 := hM1.res i hi1
    generalize hold2 : M1.getD i [] = old2 at *
    simp (maxSteps := 5000000) -dsimp only [↓gp, gq, reduceCtorEq, Nat.reduceEqDiff, Nat.reduceLT, Nat.reduceLeDiff, Nat.reduceAdd, Nat.reduceMul, Nat.reduceSub, Nat.reduceBEq, Int.reduceToNat, Int.reduceLE, Int.reduceLT, Int.reduceNeg, Nat.reduceMod, sid_ne1, sid_ne2, sid_inj, sid_mod, gT, TK.isInt, TK.agg, Array.toList, h0b, h1b, h2b, h3b, h11b, ht2.top, hr2, hq i h]
    refine ⟨h, h, by omega, by omega, ?_⟩
    have hf := hres2 c
    generalize hfe : old2.getD c 0 = f at *
    have hra1 : a < M1.length := by omega
    have hnew : (clrI p a c M1 i).length = old2.length := by
      rw [(clrI_ok (p := p) (by omega) hM1 hi1).1, hl2]
    refine loop_of (fun (t : Nat) s => s.sl 0 = .own 1000000 1 ∧ s.sl 1 = int a ∧ s.sl 2 = int c ∧ s.sl 3 = int p ∧ s.sl 11 = int i ∧ s.sl 12 = int f ∧ s.sl 13 = int t ∧ (t ≤ old2.length ∧ TabI s.rw 1000000 1 22 3 (List.range M.length) ((clrN p a c M1 i).set i (prt (clrI p a c M1 i) old2 t)))) (fun t => old2.length - t) (0) (by refine ⟨?_, ?_, ?_, ?_, ?_, ?_, ?_, ⟨by omega, (ht2.same (by simp (maxSteps := 5000000) -dsimp only [gr, Nat.reduceEqDiff, Nat.reduceLT, Nat.reduceAdd, Nat.reduceMod, Nat.reduceBEq, sid_mod, sid_ne1, sid_ne2, sid_inj]) (fun x => by simp (maxSteps := 5000000) -dsimp only [gr, Nat.reduceEqDiff, Nat.reduceLT, Nat.reduceAdd, Nat.reduceMod, Nat.reduceBEq, sid_mod, sid_ne1, sid_ne2, sid_inj])).to (by rw [prt_zero, ← hold2, ← clrN_ge p a c hi1 (Nat.le_refl i), set_self_getD])⟩⟩ <;> (first | (simp (maxSteps := 5000000) -dsimp only [gr, Nat.reduceEqDiff, Nat.reduceLT, Nat.reduceAdd, Nat.reduceMod, Nat.reduceBEq, sid_mod, sid_ne1, sid_ne2, sid_inj, h0b, h1b, h2b, h3b, h11b]; first | done | rfl | (simp; done)) | assumption | rfl)) ?_
    intro t sc ⟨h0c, h1c, h2c, h3c, h11c, h12c, h13c, hIc⟩
    obtain ⟨ht', ht3⟩ := hIc
    have hls : ((clrN p a c M1 i).set i (prt (clrI p a c M1 i) old2 t)).length = M.length := by rw [List.length_set, hlN]
    have hr3 := ht3.row (i := i) (by omega)
    rw [getM_set_self (by omega), hq i h] at hr3
    have hpl3 : (prt (clrI p a c M1 i) old2 t).length = old2.length := prt_length hnew t
    have hpj3 := prt_getD hnew (Nat.le_refl t)
    simp (maxSteps := 5000000) -dsimp only [↓gp, gq, reduceCtorEq, Nat.reduceEqDiff, Nat.reduceLT, Nat.reduceLeDiff, Nat.reduceAdd, Nat.reduceMul, Nat.reduceSub, Nat.reduceBEq, Int.reduceToNat, Int.reduceLE, Int.reduceLT, Int.reduceNeg, Nat.reduceMod, sid_ne1, sid_ne2, sid_inj, sid_mod, gT, TK.isInt, TK.agg, Array.toList, h0c, h1c, h2c, h3c, h11c, h12c, h13c, ht3.top, hr3, hq i h, hpl3]
    refine ⟨h, h, fun h2 => ⟨fun hne => ?_, fun heq => ?_⟩, fun h2 => ?_⟩
    · have hia : ¬ i = a := by
        intro e
        simp [e] at hne
      have hr4 := ht3.row (i := a) (by omega)
      rw [getM_set_ne hia, clrN_at p a c i hra1, hq a ha] at hr4
      have hla := hM1.len a hra1
      have hresa := hM1.res a hra1
      have hcI : clrI p a c M1 i = sbt p f (M1.getD a []) old2 := by unfold clrI; rw [if_neg hia, hold2, hfe]
      generalize hpiv : M1.getD a [] = piv at *
      have hft := mul_small hf ⟨(hresa t).1, by have := (hresa t).2; omega⟩ hp2.2
      have hot := hres2 t
      have hw3 : IntKind.i64.wrap (f * piv.getD t 0) = f * piv.getD t 0 := wrap_id (by omega) (by omega)
      have hw4 : IntKind.i64.wrap (old2.getD t 0 - f * piv.getD t 0) = old2.getD t 0 - f * piv.getD t 0 := wrap_id (by omega) (by omega)
      simp (maxSteps := 5000000) -dsimp only [↓gp, gq, reduceCtorEq, Nat.reduceEqDiff, Nat.reduceLT, Nat.reduceLeDiff, Nat.reduceAdd, Nat.reduceMul, Nat.reduceSub, Nat.reduceBEq, Int.reduceToNat, Int.reduceLE, Int.reduceLT, Int.reduceNeg, Nat.reduceMod, sid_ne1, sid_ne2, sid_inj, sid_mod, gT, TK.isInt, TK.agg, Array.toList, h0c, h1c, h2c, h3c, h11c, h12c, h13c, ht3.top, hr3, hq i h, hpl3, hr4, hq a ha, hpj3, hw3, hw4]
      refine ⟨by kernel_rfl, h, h, h, h, h2, h2, ha, ha, by omega, by omega, askK_of (c_spec_l13Mod _ p hp) ?_⟩
      simp (maxSteps := 5000000) -dsimp only [↓gp, gq, reduceCtorEq, Nat.reduceEqDiff, Nat.reduceLT, Nat.reduceLeDiff, Nat.reduceAdd, Nat.reduceMul, Nat.reduceSub, Nat.reduceBEq, Int.reduceToNat, Int.reduceLE, Int.reduceLT, Int.reduceNeg, Nat.reduceMod, sid_ne1, sid_ne2, sid_inj, sid_mod, gT, TK.isInt, TK.agg, Array.toList, h0c, h1c, h2c, h3c, h11c, h12c, h13c, ht3.top, hr3, hq i h, hpl3, hr4, hq a ha, hpj3, hw3, hw4]
      refine ⟨h2, by omega, by kernel_rfl, again_of (t + 1) ⟨(by (first | (simp (maxSteps := 5000000) -dsimp only [gr, Nat.reduceEqDiff, Nat.reduceLT, Nat.reduceAdd, Nat.reduceMod, Nat.reduceBEq, sid_mod, sid_ne1, sid_ne2, sid_inj, h0c, h1c, h2c, h3c, h11c, h12c, h13c, wrap_nat h2 (by omega)]; first | done | rfl | (simp; done)) | assumption | rfl)), (by (first | (simp (maxSteps := 5000000) -dsimp only [gr, Nat.reduceEqDiff, Nat.reduceLT, Nat.reduceAdd, Nat.reduceMod, Nat.reduceBEq, sid_mod, sid_ne1, sid_ne2, sid_inj, h0c, h1c, h2c, h3c, h11c, h12c, h13c, wrap_nat h2 (by omega)]; first | done | rfl | (simp; done)) | assumption | rfl)), (by (first | (simp (maxSteps := 5000000) -dsimp only [gr, Nat.reduceEqDiff, Nat.reduceLT, Nat.reduceAdd, Nat.reduceMod, Nat.reduceBEq, sid_mod, sid_ne1, sid_ne2, sid_inj, h0c, h1c, h2c, h3c, h11c, h12c, h13c, wrap_nat h2 (by omega)]; first | done | rfl | (simp; done)) | assumption | rfl)), (by (first | (simp (maxSteps := 5000000) -dsimp only [gr, Nat.reduceEqDiff, Nat.reduceLT, Nat.reduceAdd, Nat.reduceMod, Nat.reduceBEq, sid_mod, sid_ne1, sid_ne2, sid_inj, h0c, h1c, h2c, h3c, h11c, h12c, h13c, wrap_nat h2 (by omega)]; first | done | rfl | (simp; done)) | assumption | rfl)), (by (first | (simp (maxSteps := 5000000) -dsimp only [gr, Nat.reduceEqDiff, Nat.reduceLT, Nat.reduceAdd, Nat.reduceMod, Nat.reduceBEq, sid_mod, sid_ne1, sid_ne2, sid_inj, h0c, h1c, h2c, h3c, h11c, h12c, h13c, wrap_nat h2 (by omega)]; first | done | rfl | (simp; done)) | assumption | rfl)), (by (first | (simp (maxSteps := 5000000) -dsimp only [gr, Nat.reduceEqDiff, Nat.reduceLT, Nat.reduceAdd, Nat.reduceMod, Nat.reduceBEq, sid_mod, sid_ne1, sid_ne2, sid_inj, h0c, h1c, h2c, h3c, h11c, h12c, h13c, wrap_nat h2 (by omega)]; first | done | rfl | (simp; done)) | assumption | rfl)), (by (first | (simp (maxSteps := 5000000) -dsimp only [gr, Nat.reduceEqDiff, Nat.reduceLT, Nat.reduceAdd, Nat.reduceMod, Nat.reduceBEq, sid_mod, sid_ne1, sid_ne2, sid_inj, h0c, h1c, h2c, h3c, h11c, h12c, h13c, wrap_nat h2 (by omega)]; first | done | rfl | (simp; done)) | assumption | rfl)), ⟨by omega, ?_⟩⟩ (by first | omega | (simp only; omega) | (dsimp only; omega) | (show _ < _; simp; omega))⟩
      have e : (clrN p a c M1 i).set i (prt (clrI p a c M1 i) old2 (t + 1)) = ((clrN p a c M1 i).set i (prt (clrI p a c M1 i) old2 t)).set i ((prt (clrI p a c M1 i) old2 t).set t ((old2.getD t 0 - f * piv.getD t 0) % p)) := by
        rw [set_set, ← prt_set hnew h2, ← sbt_getD p f (piv := piv) h2, hcI]
      rw [e]
      refine ht3.set (by omega) (by simp (maxSteps := 5000000) -dsimp only [gr, Nat.reduceEqDiff, Nat.reduceLT, Nat.reduceAdd, Nat.reduceMod, Nat.reduceBEq, sid_mod, sid_ne1, sid_ne2, sid_inj, h0c, h1c, h2c, h3c, h11c, h12c, h13c]) ?_ (fun x hx => ?_)
      · rw [hq i h]; simp (maxSteps := 5000000) -dsimp only [gr, Nat.reduceEqDiff, Nat.reduceLT, Nat.reduceAdd, Nat.reduceMod, Nat.reduceBEq, sid_mod, sid_ne1, sid_ne2, sid_inj, h0c, h1c, h2c, h3c, h11c, h12c, h13c]
      · rw [hq i h] at hx
        simp (maxSteps := 5000000) -dsimp only [gr, Nat.reduceEqDiff, Nat.reduceLT, Nat.reduceAdd, Nat.reduceMod, Nat.reduceBEq, sid_mod, sid_ne1, sid_ne2, sid_inj, h0c, h1c, h2c, h3c, h11c, h12c, h13c, hx]
    · have hia : i = a := by
        have h9 : (i : Int) = a := by simpa using heq
        omega
      have hcI : clrI p a c M1 i = old2 := by unfold clrI; rw [if_pos hia, hold2]
      have ht4 := ht3
      rw [hcI, prt_same, ← hcI, clrN_succ p a c hi1] at ht4
      exact again_of (i + 1) (by refine ⟨?_, ?_, ?_, ?_, ?_, ⟨by omega, ht4.same (by simp (maxSteps := 5000000) -dsimp only [gr, Nat.reduceEqDiff, Nat.reduceLT, Nat.reduceAdd, Nat.reduceMod, Nat.reduceBEq, sid_mod, sid_ne1, sid_ne2, sid_inj]) (fun x => by simp (maxSteps := 5000000) -dsimp only [gr, Nat.reduceEqDiff, Nat.reduceLT, Nat.reduceAdd, Nat.reduceMod, Nat.reduceBEq, sid_mod, sid_ne1, sid_ne2, sid_inj])⟩⟩ <;> (first | (simp (maxSteps := 5000000) -dsimp only [gr, Nat.reduceEqDiff, Nat.reduceLT, Nat.reduceAdd, Nat.reduceMod, Nat.reduceBEq, sid_mod, sid_ne1, sid_ne2, sid_inj, h0b, h1b, h2b, h3b, h11b, h0c, h1c, h2c, h3c, h11c, h12c, h13c, wrap_nat h (by omega)]; first | done | rfl | (simp; done)) | assumption | rfl)) (by first | omega | (simp only; omega) | (dsimp only; omega) | (show _ < _; simp; omega))
    · have : t = old2.length := by omega
      have ht4 := ht3
      rw [this, prt_end hnew, clrN_succ p a c hi1] at ht4
      exact again_of (i + 1) (by refine ⟨?_, ?_, ?_, ?_, ?_, ⟨by omega, ht4.same (by simp (maxSteps := 5000000) -dsimp only [gr, Nat.reduceEqDiff, Nat.reduceLT, Nat.reduceAdd, Nat.reduceMod, Nat.reduceBEq, sid_mod, sid_ne1, sid_ne2, sid_inj]) (fun x => by simp (maxSteps := 5000000) -dsimp only [gr, Nat.reduceEqDiff, Nat.reduceLT, Nat.reduceAdd, Nat.reduceMod, Nat.reduceBEq, sid_mod, sid_ne1, sid_ne2, sid_inj])⟩⟩ <;> (first | (simp (maxSteps := 5000000) -dsimp only [gr, Nat.reduceEqDiff, Nat.reduceLT, Nat.reduceAdd, Nat.reduceMod, Nat.reduceBEq, sid_mod, sid_ne1, sid_ne2, sid_inj, h0b, h1b, h2b, h3b, h11b, h0c, h1c, h2c, h3c, h11c, h12c, h13c, wrap_nat h (by omega)]; first | done | rfl | (simp; done)) | assumption | rfl)) (by first | omega | (simp only; omega) | (dsimp only; omega) | (show _ < _; simp; omega))
  · have : i = M.length := by omega
    rw [this] at ht2
    exact tabEnd_of (ht2.same (by simp (maxSteps := 5000000) -dsimp only [gr, Nat.reduceEqDiff, Nat.reduceLT, Nat.reduceAdd, Nat.reduceMod, Nat.reduceBEq, sid_mod, sid_ne1, sid_ne2, sid_inj]) (fun x => by simp (maxSteps := 5000000) -dsimp only [gr, Nat.reduceEqDiff, Nat.reduceLT, Nat.reduceAdd, Nat.reduceMod, Nat.reduceBEq, sid_mod, sid_ne1, sid_ne2, sid_inj])) (List.Perm.refl _)
end Go.Proofs.Ytlapkhmehcnjeaa
