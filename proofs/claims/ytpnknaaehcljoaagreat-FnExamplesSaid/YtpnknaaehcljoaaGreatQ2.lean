/- DERIVED by an AI agent. -/
import Derived.Test.YtpnknaaehcljoaaGreatQ1
import Derived.Test.YtpnknaaehcljoaaGreatP1
import Derived.Test.YtpnknaaehcljoaaGreatA15
namespace Go.Proofs.YtpnknaaehcljoaaGreat
open Go.Abs
open Nat (reduceEqDiff reduceMod reduceAdd reduceLT reduceLeDiff reduceSub reduceMul)
set_option linter.unusedSimpArgs false
set_option linter.unusedVariables false
theorem c_spec_l2Has (xs : List Int) (n : Int) : AC Tryz.prog 101 [ints xs, int n] (.im (bool (decide (n ∈ xs)))) := by
  refine AC.go (rs := [.tmp 4]) T_ok mixed Tryz.func101 rfl rfl rfl (by kernel_rfl) fun hl => ?_
  simp only [lens_cons, lens_nil, and_true, lens2_iL, lens2_v] at hl
  simp (maxSteps:=5000000) -dsimp only [↓gp, gq, reduceCtorEq, reduceEqDiff, reduceLT, reduceLeDiff, reduceAdd, reduceMul, reduceSub, Nat.reduceBEq, Int.reduceToNat, Int.reduceLE, Int.reduceLT, Int.reduceNeg, reduceMod, sid_ne1, sid_ne2, sid_inj, sid_mod, gT, TK.isInt, TK.agg, Array.toList]
  refine loop_of (fun (k : Nat) s => s.sl 0 = ints xs ∧ s.sl 1 = int n ∧ s.sl 5 = int k ∧ (k ≤ xs.length ∧ ∀ i, i < k → xs.getD i 0 ≠ n)) (fun k => xs.length - k) (0) (by refine ⟨?_, ?_, ?_, by simp⟩ <;> (first | (simp (maxSteps:=5000000) -dsimp only [gr, reduceEqDiff, reduceLT, reduceAdd, reduceMod, Nat.reduceBEq, sid_mod, sid_ne1, sid_ne2, sid_inj]; first | done | rfl | (simp; done)) | assumption | rfl)) ?_
  intro k sa ⟨h0a, h1a, h5a, hIa⟩
  obtain ⟨hk, hall⟩ := hIa
  simp (maxSteps:=5000000) -dsimp only [↓gp, gq, reduceCtorEq, reduceEqDiff, reduceLT, reduceLeDiff, reduceAdd, reduceMul, reduceSub, Nat.reduceBEq, Int.reduceToNat, Int.reduceLE, Int.reduceLT, Int.reduceNeg, reduceMod, sid_ne1, sid_ne2, sid_inj, sid_mod, gT, TK.isInt, TK.agg, Array.toList, h0a, h1a, h5a]
  refine ⟨fun h => ⟨h, h, fun he => ?_, fun he => again_of (k + 1) ⟨(by (first | (simp (maxSteps:=5000000) -dsimp only [gr, reduceEqDiff, reduceLT, reduceAdd, reduceMod, Nat.reduceBEq, sid_mod, sid_ne1, sid_ne2, sid_inj, h0a, h1a, h5a, wrap_nat h hl]; first | done | rfl | (simp; done)) | assumption | rfl)), (by (first | (simp (maxSteps:=5000000) -dsimp only [gr, reduceEqDiff, reduceLT, reduceAdd, reduceMod, Nat.reduceBEq, sid_mod, sid_ne1, sid_ne2, sid_inj, h0a, h1a, h5a, wrap_nat h hl]; first | done | rfl | (simp; done)) | assumption | rfl)), (by (first | (simp (maxSteps:=5000000) -dsimp only [gr, reduceEqDiff, reduceLT, reduceAdd, reduceMod, Nat.reduceBEq, sid_mod, sid_ne1, sid_ne2, sid_inj, h0a, h1a, h5a, wrap_nat h hl]; first | done | rfl | (simp; done)) | assumption | rfl)), ⟨by omega, fun i hi => ?_⟩⟩ (by first | omega | (simp only; omega) | (dsimp only; omega) | (show _ < _; simp; omega))⟩, fun h => ?_⟩
  · have he : xs.getD k 0 = n := by simpa using he
    rw [← he]
    exact getD_mem 0 h
  · rcases Nat.lt_succ_iff_lt_or_eq.1 hi with hi | rfl
    · exact hall i hi
    · simpa using he
  · intro hm
    obtain ⟨i, hi, he⟩ := mem_getD 0 hm
    exact hall i (by omega) he
def idxOf (xs : List Int) (n : Int) : Int := if n ∈ xs then (xs.idxOf n : Nat) else -1
theorem idxOf_at {xs : List Int} {n : Int} {k : Nat} (h : k < xs.length) (he : xs.getD k 0 = n) (hall : ∀ i, i < k → xs.getD i 0 ≠ n) : idxOf xs n = k := by
  have hm : n ∈ xs := he ▸ getD_mem 0 h
  unfold idxOf
  rw [if_pos hm]
  have h1 : xs.idxOf n < xs.length := List.idxOf_lt_length_iff.2 hm
  have h2 : xs.getD (xs.idxOf n) 0 = n := by rw [getD_at 0 h1]; exact List.getElem_idxOf h1
  rcases Nat.lt_trichotomy (xs.idxOf n) k with hlt | heq | hgt
  · exact absurd h2 (hall _ hlt)
  · rw [heq]
  · have := List.not_of_lt_findIdx (p := (· == n)) (xs := xs) (i := k) hgt
    rw [getD_at 0 h] at he
    simp [he] at this
theorem c_slices_Index (xs : List Int) (n : Int) : AC Tryz.prog 221 [ints xs, int n] (.im (int (idxOf xs n))) := by
  refine AC.go (rs := [.tmp 4]) T_ok mixed Tryz.func221 rfl rfl rfl (by kernel_rfl) fun hl => ?_
  simp only [lens_cons, lens_nil, and_true, lens2_iL, lens2_v] at hl
  simp (maxSteps:=5000000) -dsimp only [↓gp, gq, reduceCtorEq, reduceEqDiff, reduceLT, reduceLeDiff, reduceAdd, reduceMul, reduceSub, Nat.reduceBEq, Int.reduceToNat, Int.reduceLE, Int.reduceLT, Int.reduceNeg, reduceMod, sid_ne1, sid_ne2, sid_inj, sid_mod, gT, TK.isInt, TK.agg, Array.toList]
  refine loop_of (fun (k : Nat) s => s.sl 0 = ints xs ∧ s.sl 1 = int n ∧ s.sl 7 = int xs.length ∧ s.sl 8 = int k ∧ (k ≤ xs.length ∧ ∀ i, i < k → xs.getD i 0 ≠ n)) (fun k => xs.length - k) (0) (by refine ⟨?_, ?_, ?_, ?_, by simp⟩ <;> (first | (simp (maxSteps:=5000000) -dsimp only [gr, reduceEqDiff, reduceLT, reduceAdd, reduceMod, Nat.reduceBEq, sid_mod, sid_ne1, sid_ne2, sid_inj]; first | done | rfl | (simp; done)) | assumption | rfl)) ?_
  intro k sa ⟨h0a, h1a, h7a, h8a, hIa⟩
  obtain ⟨hk, hall⟩ := hIa
  simp (maxSteps:=5000000) -dsimp only [↓gp, gq, reduceCtorEq, reduceEqDiff, reduceLT, reduceLeDiff, reduceAdd, reduceMul, reduceSub, Nat.reduceBEq, Int.reduceToNat, Int.reduceLE, Int.reduceLT, Int.reduceNeg, reduceMod, sid_ne1, sid_ne2, sid_inj, sid_mod, gT, TK.isInt, TK.agg, Array.toList, h0a, h1a, h7a, h8a]
  refine ⟨fun h => ⟨h, h, fun he => idxOf_at h (by simpa using (beq_iff_eq.1 he).symm) hall, fun he => again_of (k + 1) ⟨(by (first | (simp (maxSteps:=5000000) -dsimp only [gr, reduceEqDiff, reduceLT, reduceAdd, reduceMod, Nat.reduceBEq, sid_mod, sid_ne1, sid_ne2, sid_inj, h0a, h1a, h7a, h8a, wrap_nat h hl]; first | done | rfl | (simp; done)) | assumption | rfl)), (by (first | (simp (maxSteps:=5000000) -dsimp only [gr, reduceEqDiff, reduceLT, reduceAdd, reduceMod, Nat.reduceBEq, sid_mod, sid_ne1, sid_ne2, sid_inj, h0a, h1a, h7a, h8a, wrap_nat h hl]; first | done | rfl | (simp; done)) | assumption | rfl)), (by (first | (simp (maxSteps:=5000000) -dsimp only [gr, reduceEqDiff, reduceLT, reduceAdd, reduceMod, Nat.reduceBEq, sid_mod, sid_ne1, sid_ne2, sid_inj, h0a, h1a, h7a, h8a, wrap_nat h hl]; first | done | rfl | (simp; done)) | assumption | rfl)), (by (first | (simp (maxSteps:=5000000) -dsimp only [gr, reduceEqDiff, reduceLT, reduceAdd, reduceMod, Nat.reduceBEq, sid_mod, sid_ne1, sid_ne2, sid_inj, h0a, h1a, h7a, h8a, wrap_nat h hl]; first | done | rfl | (simp; done)) | assumption | rfl)), ⟨by omega, fun i hi => ?_⟩⟩ (by first | omega | (simp only; omega) | (dsimp only; omega) | (show _ < _; simp; omega))⟩, fun h => ?_⟩
  · rcases Nat.lt_succ_iff_lt_or_eq.1 hi with hi | rfl
    · exact hall i hi
    · intro e; rw [e] at he; simp at he
  · unfold idxOf
    rw [if_neg fun hm => ?_]
    obtain ⟨i, hi, he⟩ := mem_getD 0 hm
    exact hall i (by omega) he
theorem c_slices_Contains (xs : List Int) (n : Int) : AC Tryz.prog 197 [ints xs, int n] (.im (bool (decide (n ∈ xs)))) := by
  refine AC.go (rs := [.tmp 4]) T_ok mixed Tryz.func197 rfl rfl rfl (by kernel_rfl) fun hl => ?_
  simp (maxSteps:=5000000) -dsimp only [↓gp, gq, reduceCtorEq, reduceEqDiff, reduceLT, reduceLeDiff, reduceAdd, reduceMul, reduceSub, Nat.reduceBEq, Int.reduceToNat, Int.reduceLE, Int.reduceLT, Int.reduceNeg, reduceMod, sid_ne1, sid_ne2, sid_inj, sid_mod, gT, TK.isInt, TK.agg, Array.toList]
  refine askK_of (c_slices_Index xs n) ?_
  simp (maxSteps:=5000000) -dsimp only [↓gp, gq, reduceCtorEq, reduceEqDiff, reduceLT, reduceLeDiff, reduceAdd, reduceMul, reduceSub, Nat.reduceBEq, Int.reduceToNat, Int.reduceLE, Int.reduceLT, Int.reduceNeg, reduceMod, sid_ne1, sid_ne2, sid_inj, sid_mod, gT, TK.isInt, TK.agg, Array.toList]
  unfold idxOf
  by_cases hm : n ∈ xs
  · simp [hm]
  · simp [hm]
theorem c_spec_l2Before {a b : Int} (ha : 0 ≤ a ∧ a < 64) (hb : 0 ≤ b ∧ b < 64) : AC Tryz.prog 181 [int a, int b] (.im (bool (befS a b))) := by
  refine AC.go (rs := [.tmp 4]) T_ok mixed Tryz.func181 rfl rfl rfl (by kernel_rfl) fun hl => ?_
  simp (maxSteps:=5000000) -dsimp only [↓gp, gq, reduceCtorEq, reduceEqDiff, reduceLT, reduceLeDiff, reduceAdd, reduceMul, reduceSub, Nat.reduceBEq, Int.reduceToNat, Int.reduceLE, Int.reduceLT, Int.reduceNeg, reduceMod, sid_ne1, sid_ne2, sid_inj, sid_mod, gT, TK.isInt, TK.agg, Array.toList]
  refine askK_of (c_spec_l2Sizei ha.1 (by omega)) ?_
  simp (maxSteps:=5000000) -dsimp only [↓gp, gq, reduceCtorEq, reduceEqDiff, reduceLT, reduceLeDiff, reduceAdd, reduceMul, reduceSub, Nat.reduceBEq, Int.reduceToNat, Int.reduceLE, Int.reduceLT, Int.reduceNeg, reduceMod, sid_ne1, sid_ne2, sid_inj, sid_mod, gT, TK.isInt, TK.agg, Array.toList]
  refine askK_of (c_spec_l2Sizei hb.1 (by omega)) ?_
  simp (maxSteps:=5000000) -dsimp only [↓gp, gq, reduceCtorEq, reduceEqDiff, reduceLT, reduceLeDiff, reduceAdd, reduceMul, reduceSub, Nat.reduceBEq, Int.reduceToNat, Int.reduceLE, Int.reduceLT, Int.reduceNeg, reduceMod, sid_ne1, sid_ne2, sid_inj, sid_mod, gT, TK.isInt, TK.agg, Array.toList]
  unfold befS szOf
  rw [if_pos ha, if_pos hb, decide_eq_true ha, decide_eq_true hb]
  simp only [Bool.true_and]
  refine ⟨fun h => ⟨fun h2 => ?_, fun h2 => ?_⟩, fun h => ?_⟩
  · rw [if_pos (by simpa using h2)]
  · rw [if_neg (by simpa using h2)]
    exact decide_eq_false (by omega)
  · rw [if_neg (by omega)]
    exact decide_eq_true (by omega)
def cxAt (n : Int) (xs : List Int) (k : Nat) : Prop := inSet n (xs.getD k 0) = true ∧ (0 < k → befS (xs.getD (k - 1) 0) (xs.getD k 0) = true) ∧ ∀ i, i < k → iand .i64 (xs.getD i 0) (xs.getD k 0) ≠ xs.getD i 0
def cxP (n : Int) (xs : List Int) : Prop := 1 ≤ n ∧ n ≤ 6 ∧ ∀ k, k < xs.length → cxAt n xs k
open Classical in
noncomputable def isCx (n : Int) (xs : List Int) : Bool := decide (cxP n xs)
open Classical in
theorem isCx_no {n : Int} {xs : List Int} (h : ¬ cxP n xs) : isCx n xs = false := decide_eq_false h
open Classical in
theorem isCx_yes {n : Int} {xs : List Int} (h : cxP n xs) : isCx n xs = true := decide_eq_true h
open Classical in
theorem isCx_iff {n : Int} {xs : List Int} : isCx n xs = true ↔ cxP n xs := decide_eq_true_iff
theorem c_spec_IsComplex (n : Int) (xs : List Int) : AC Tryz.prog 114 [.ag [int n, ints xs]] (.im (bool (isCx n xs))) := by
  refine AC.go (rs := [.tmp 2]) T_ok mixed Tryz.func114 rfl rfl rfl (by kernel_rfl) fun hl => ?_
  simp only [lens_cons, lens_nil, and_true, lens2_ag2, lens1_v, lens1_iL, true_and] at hl
  simp (maxSteps:=5000000) -dsimp only [↓gp, gq, reduceCtorEq, reduceEqDiff, reduceLT, reduceLeDiff, reduceAdd, reduceMul, reduceSub, Nat.reduceBEq, Int.reduceToNat, Int.reduceLE, Int.reduceLT, Int.reduceNeg, reduceMod, sid_ne1, sid_ne2, sid_inj, sid_mod, gT, TK.isInt, TK.agg, Array.toList]
  refine loop_of (fun (k : Nat) s => s.sl 1 = .ref 1 1 0 ∧ s.rw 1 = ⟨1, .box 27 [int n, ints xs]⟩ ∧ s.sl 3 = int k ∧ (k ≤ xs.length ∧ ∀ i, i < k → cxAt n xs i)) (fun k => xs.length - k) (0) (by refine ⟨?_, ?_, ?_, by simp⟩ <;> (first | (simp (maxSteps:=5000000) -dsimp only [gr, reduceEqDiff, reduceLT, reduceAdd, reduceMod, Nat.reduceBEq, sid_mod, sid_ne1, sid_ne2, sid_inj]; first | done | rfl | (simp; done)) | assumption | rfl)) ?_
  intro k sa ⟨h1a, r1a, h3a, hIa⟩
  obtain ⟨hk, hall⟩ := hIa
  have hw : IntKind.i64.wrap ((k : Int) - 1) = (k : Int) - 1 := wrap_id (by omega) (by omega)
  simp (maxSteps:=5000000) -dsimp only [↓gp, gq, reduceCtorEq, reduceEqDiff, reduceLT, reduceLeDiff, reduceAdd, reduceMul, reduceSub, Nat.reduceBEq, Int.reduceToNat, Int.reduceLE, Int.reduceLT, Int.reduceNeg, reduceMod, sid_ne1, sid_ne2, sid_inj, sid_mod, gT, TK.isInt, TK.agg, Array.toList, h1a, r1a, h3a, hw, toNat_pred]
  refine ⟨fun h => ⟨by kernel_rfl, h, h, askK_of (c_spec_IsSet _ _) ?_⟩, fun h => askK_of (c_spec_l1In _ _ _) ?_⟩
  · simp (maxSteps:=5000000) -dsimp only [↓gp, gq, reduceCtorEq, reduceEqDiff, reduceLT, reduceLeDiff, reduceAdd, reduceMul, reduceSub, Nat.reduceBEq, Int.reduceToNat, Int.reduceLE, Int.reduceLT, Int.reduceNeg, reduceMod, sid_ne1, sid_ne2, sid_inj, sid_mod, gT, TK.isInt, TK.agg, Array.toList, h1a, r1a, h3a, hw, toNat_pred]
    refine ⟨fun hs => ⟨fun h0 => ⟨by omega, by omega, by omega, h, h, ?_⟩, fun h0 => ?_⟩, fun hs => ?_⟩
    · have hs : inSet n (xs.getD k 0) = true := by rwa [Bool.not_eq_false'] at hs
      have hb := inSet_lt hs
      have hb' := inSet_lt (hall (k - 1) (by omega)).1
      refine askK_of (c_spec_l2Before hb' hb) ?_
      simp (maxSteps:=5000000) -dsimp only [↓gp, gq, reduceCtorEq, reduceEqDiff, reduceLT, reduceLeDiff, reduceAdd, reduceMul, reduceSub, Nat.reduceBEq, Int.reduceToNat, Int.reduceLE, Int.reduceLT, Int.reduceNeg, reduceMod, sid_ne1, sid_ne2, sid_inj, sid_mod, gT, TK.isInt, TK.agg, Array.toList, h1a, r1a, h3a, hw, toNat_pred]
      refine ⟨fun hbef => isCx_no fun hg => ?_, fun hbef => ?_⟩
      · have := (hg.2.2 k h).2.1 (by omega)
        rw [this] at hbef; cases hbef
      · have hbef : 0 < k → befS (xs.getD (k - 1) 0) (xs.getD k 0) = true := fun _ => by rwa [Bool.not_eq_false'] at hbef
        refine loop_of (fun (i : Nat) s => s.sl 1 = .ref 1 1 0 ∧ s.rw 1 = ⟨1, .box 27 [int n, ints xs]⟩ ∧ s.sl 3 = int k ∧ s.sl 4 = int i ∧ (i ≤ k ∧ ∀ j, j < i → iand .i64 (xs.getD j 0) (xs.getD k 0) ≠ xs.getD j 0)) (fun i => k - i) (0) (by refine ⟨?_, ?_, ?_, ?_, by simp⟩ <;> (first | (simp (maxSteps:=5000000) -dsimp only [gr, reduceEqDiff, reduceLT, reduceAdd, reduceMod, Nat.reduceBEq, sid_mod, sid_ne1, sid_ne2, sid_inj, h1a, r1a, h3a]; first | done | rfl | (simp; done)) | assumption | rfl)) ?_
        intro i sb ⟨h1b, r1b, h3b, h4b, hIb⟩
        obtain ⟨hik, hin⟩ := hIb
        simp (maxSteps:=5000000) -dsimp only [↓gp, gq, reduceCtorEq, reduceEqDiff, reduceLT, reduceLeDiff, reduceAdd, reduceMul, reduceSub, Nat.reduceBEq, Int.reduceToNat, Int.reduceLE, Int.reduceLT, Int.reduceNeg, reduceMod, sid_ne1, sid_ne2, sid_inj, sid_mod, gT, TK.isInt, TK.agg, Array.toList, h1b, r1b, h3b, h4b]
        refine ⟨fun hi => ⟨by kernel_rfl, by omega, by omega, h, h, by omega, by omega, fun he => ?_, fun he => again_of (i + 1) ⟨(by (first | (simp (maxSteps:=5000000) -dsimp only [gr, reduceEqDiff, reduceLT, reduceAdd, reduceMod, Nat.reduceBEq, sid_mod, sid_ne1, sid_ne2, sid_inj, h1b, r1b, h3b, h4b, wrap_nat hi (by omega)]; first | done | rfl | (simp; done)) | assumption | rfl)), (by (first | (simp (maxSteps:=5000000) -dsimp only [gr, reduceEqDiff, reduceLT, reduceAdd, reduceMod, Nat.reduceBEq, sid_mod, sid_ne1, sid_ne2, sid_inj, h1b, r1b, h3b, h4b, wrap_nat hi (by omega)]; first | done | rfl | (simp; done)) | assumption | rfl)), (by (first | (simp (maxSteps:=5000000) -dsimp only [gr, reduceEqDiff, reduceLT, reduceAdd, reduceMod, Nat.reduceBEq, sid_mod, sid_ne1, sid_ne2, sid_inj, h1b, r1b, h3b, h4b, wrap_nat hi (by omega)]; first | done | rfl | (simp; done)) | assumption | rfl)), (by (first | (simp (maxSteps:=5000000) -dsimp only [gr, reduceEqDiff, reduceLT, reduceAdd, reduceMod, Nat.reduceBEq, sid_mod, sid_ne1, sid_ne2, sid_inj, h1b, r1b, h3b, h4b, wrap_nat hi (by omega)]; first | done | rfl | (simp; done)) | assumption | rfl)), ⟨by omega, fun j hj => ?_⟩⟩ (by first | omega | (simp only; omega) | (dsimp only; omega) | (show _ < _; simp; omega))⟩, fun hi => again_of (k + 1) ⟨(by (first | (simp (maxSteps:=5000000) -dsimp only [gr, reduceEqDiff, reduceLT, reduceAdd, reduceMod, Nat.reduceBEq, sid_mod, sid_ne1, sid_ne2, sid_inj, h1a, r1a, h3a, h1b, r1b, h3b, h4b, wrap_nat h hl]; first | done | rfl | (simp; done)) | assumption | rfl)), (by (first | (simp (maxSteps:=5000000) -dsimp only [gr, reduceEqDiff, reduceLT, reduceAdd, reduceMod, Nat.reduceBEq, sid_mod, sid_ne1, sid_ne2, sid_inj, h1a, r1a, h3a, h1b, r1b, h3b, h4b, wrap_nat h hl]; first | done | rfl | (simp; done)) | assumption | rfl)), (by (first | (simp (maxSteps:=5000000) -dsimp only [gr, reduceEqDiff, reduceLT, reduceAdd, reduceMod, Nat.reduceBEq, sid_mod, sid_ne1, sid_ne2, sid_inj, h1a, r1a, h3a, h1b, r1b, h3b, h4b, wrap_nat h hl]; first | done | rfl | (simp; done)) | assumption | rfl)), ⟨by omega, fun j hj => ?_⟩⟩ (by first | omega | (simp only; omega) | (dsimp only; omega) | (show _ < _; simp; omega))⟩
        · exact isCx_no fun hg => (hg.2.2 k h).2.2 i hi (by simpa using he)
        · rcases Nat.lt_succ_iff_lt_or_eq.1 hj with hj | rfl
          · exact hin j hj
          · simpa using he
        · rcases Nat.lt_succ_iff_lt_or_eq.1 hj with hj | rfl
          · exact hall j hj
          · exact ⟨hs, hbef, fun i hi => hin i (by omega)⟩
    · have hs : inSet n (xs.getD k 0) = true := by rwa [Bool.not_eq_false'] at hs
      have hbef : 0 < k → befS (xs.getD (k - 1) 0) (xs.getD k 0) = true := fun h => by omega
      refine loop_of (fun (i : Nat) s => s.sl 1 = .ref 1 1 0 ∧ s.rw 1 = ⟨1, .box 27 [int n, ints xs]⟩ ∧ s.sl 3 = int k ∧ s.sl 4 = int i ∧ (i ≤ k ∧ ∀ j, j < i → iand .i64 (xs.getD j 0) (xs.getD k 0) ≠ xs.getD j 0)) (fun i => k - i) (0) (by refine ⟨?_, ?_, ?_, ?_, by simp⟩ <;> (first | (simp (maxSteps:=5000000) -dsimp only [gr, reduceEqDiff, reduceLT, reduceAdd, reduceMod, Nat.reduceBEq, sid_mod, sid_ne1, sid_ne2, sid_inj, h1a, r1a, h3a]; first | done | rfl | (simp; done)) | assumption | rfl)) ?_
      intro i sb ⟨h1b, r1b, h3b, h4b, hIb⟩
      obtain ⟨hik, hin⟩ := hIb
      simp (maxSteps:=5000000) -dsimp only [↓gp, gq, reduceCtorEq, reduceEqDiff, reduceLT, reduceLeDiff, reduceAdd, reduceMul, reduceSub, Nat.reduceBEq, Int.reduceToNat, Int.reduceLE, Int.reduceLT, Int.reduceNeg, reduceMod, sid_ne1, sid_ne2, sid_inj, sid_mod, gT, TK.isInt, TK.agg, Array.toList, h1b, r1b, h3b, h4b]
      refine ⟨fun hi => ⟨by kernel_rfl, by omega, by omega, h, h, by omega, by omega, fun he => ?_, fun he => again_of (i + 1) ⟨(by (first | (simp (maxSteps:=5000000) -dsimp only [gr, reduceEqDiff, reduceLT, reduceAdd, reduceMod, Nat.reduceBEq, sid_mod, sid_ne1, sid_ne2, sid_inj, h1b, r1b, h3b, h4b, wrap_nat hi (by omega)]; first | done | rfl | (simp; done)) | assumption | rfl)), (by (first | (simp (maxSteps:=5000000) -dsimp only [gr, reduceEqDiff, reduceLT, reduceAdd, reduceMod, Nat.reduceBEq, sid_mod, sid_ne1, sid_ne2, sid_inj, h1b, r1b, h3b, h4b, wrap_nat hi (by omega)]; first | done | rfl | (simp; done)) | assumption | rfl)), (by (first | (simp (maxSteps:=5000000) -dsimp only [gr, reduceEqDiff, reduceLT, reduceAdd, reduceMod, Nat.reduceBEq, sid_mod, sid_ne1, sid_ne2, sid_inj, h1b, r1b, h3b, h4b, wrap_nat hi (by omega)]; first | done | rfl | (simp; done)) | assumption | rfl)), (by (first | (simp (maxSteps:=5000000) -dsimp only [gr, reduceEqDiff, reduceLT, reduceAdd, reduceMod, Nat.reduceBEq, sid_mod, sid_ne1, sid_ne2, sid_inj, h1b, r1b, h3b, h4b, wrap_nat hi (by omega)]; first | done | rfl | (simp; done)) | assumption | rfl)), ⟨by omega, fun j hj => ?_⟩⟩ (by first | omega | (simp only; omega) | (dsimp only; omega) | (show _ < _; simp; omega))⟩, fun hi => again_of (k + 1) ⟨(by (first | (simp (maxSteps:=5000000) -dsimp only [gr, reduceEqDiff, reduceLT, reduceAdd, reduceMod, Nat.reduceBEq, sid_mod, sid_ne1, sid_ne2, sid_inj, h1a, r1a, h3a, h1b, r1b, h3b, h4b, wrap_nat h hl]; first | done | rfl | (simp; done)) | assumption | rfl)), (by (first | (simp (maxSteps:=5000000) -dsimp only [gr, reduceEqDiff, reduceLT, reduceAdd, reduceMod, Nat.reduceBEq, sid_mod, sid_ne1, sid_ne2, sid_inj, h1a, r1a, h3a, h1b, r1b, h3b, h4b, wrap_nat h hl]; first | done | rfl | (simp; done)) | assumption | rfl)), (by (first | (simp (maxSteps:=5000000) -dsimp only [gr, reduceEqDiff, reduceLT, reduceAdd, reduceMod, Nat.reduceBEq, sid_mod, sid_ne1, sid_ne2, sid_inj, h1a, r1a, h3a, h1b, r1b, h3b, h4b, wrap_nat h hl]; first | done | rfl | (simp; done)) | assumption | rfl)), ⟨by omega, fun j hj => ?_⟩⟩ (by first | omega | (simp only; omega) | (dsimp only; omega) | (show _ < _; simp; omega))⟩
      · exact isCx_no fun hg => (hg.2.2 k h).2.2 i hi (by simpa using he)
      · rcases Nat.lt_succ_iff_lt_or_eq.1 hj with hj | rfl
        · exact hin j hj
        · simpa using he
      · rcases Nat.lt_succ_iff_lt_or_eq.1 hj with hj | rfl
        · exact hall j hj
        · exact ⟨hs, hbef, fun i hi => hin i (by omega)⟩
    · have hs : inSet n (xs.getD k 0) = false := by rwa [Bool.not_eq_true'] at hs
      exact isCx_no fun hg => by have := (hg.2.2 k h).1; rw [hs] at this; cases this
  · simp (maxSteps:=5000000) -dsimp only [↓gp, gq, reduceCtorEq, reduceEqDiff, reduceLT, reduceLeDiff, reduceAdd, reduceMul, reduceSub, Nat.reduceBEq, Int.reduceToNat, Int.reduceLE, Int.reduceLT, Int.reduceNeg, reduceMod, sid_ne1, sid_ne2, sid_inj, sid_mod, gT, TK.isInt, TK.agg, Array.toList, h1a, r1a, h3a, hw, toNat_pred]
    by_cases hn : 1 ≤ n ∧ n ≤ 6
    · rw [isCx_yes ⟨hn.1, hn.2, fun k hk => hall k (by omega)⟩]
      simp [hn.1, hn.2]
    · rw [isCx_no fun hg => hn ⟨hg.1, hg.2.1⟩]
      symm
      rw [Bool.and_eq_false_iff, decide_eq_false_iff_not, decide_eq_false_iff_not]
      omega
theorem c_impl_isAntichain (n : Int) (xs : List Int) : AC Tryz.prog 178 [int n, ints xs] (.im (bool (isCx n xs))) := by
  refine AC.go (rs := [.tmp 4]) T_ok mixed Tryz.func178 rfl rfl rfl (by kernel_rfl) fun hl => ?_
  simp only [lens_cons, lens_nil, and_true, lens2_v, lens2_iL, true_and] at hl
  simp (maxSteps:=5000000) -dsimp only [↓gp, gq, reduceCtorEq, reduceEqDiff, reduceLT, reduceLeDiff, reduceAdd, reduceMul, reduceSub, Nat.reduceBEq, Int.reduceToNat, Int.reduceLE, Int.reduceLT, Int.reduceNeg, reduceMod, sid_ne1, sid_ne2, sid_inj, sid_mod, gT, TK.isInt, TK.agg, Array.toList]
  refine ⟨fun hn => ⟨fun h6 => isCx_no fun hg => by have := hg.2.1; omega, fun h6 => ?_⟩, fun hn => isCx_no fun hg => by have := hg.1; omega⟩
  refine loop_of (fun (k : Nat) s => s.sl 0 = int n ∧ s.sl 1 = ints xs ∧ s.sl 17 = ints xs ∧ s.sl 18 = int xs.length ∧ s.sl 19 = int k ∧ (k ≤ xs.length ∧ ∀ i, i < k → inSet n (xs.getD i 0) = true ∧ (0 < i → befS (xs.getD (i - 1) 0) (xs.getD i 0) = true))) (fun k => xs.length - k) (0) (by refine ⟨?_, ?_, ?_, ?_, ?_, by simp⟩ <;> (first | (simp (maxSteps:=5000000) -dsimp only [gr, reduceEqDiff, reduceLT, reduceAdd, reduceMod, Nat.reduceBEq, sid_mod, sid_ne1, sid_ne2, sid_inj]; first | done | rfl | (simp; done)) | assumption | rfl)) ?_
  intro k sa ⟨h0a, h1a, h17a, h18a, h19a, hIa⟩
  obtain ⟨hk, hall⟩ := hIa
  have hw : IntKind.i64.wrap ((k : Int) - 1) = (k : Int) - 1 := wrap_id (by omega) (by omega)
  simp (maxSteps:=5000000) -dsimp only [↓gp, gq, reduceCtorEq, reduceEqDiff, reduceLT, reduceLeDiff, reduceAdd, reduceMul, reduceSub, Nat.reduceBEq, Int.reduceToNat, Int.reduceLE, Int.reduceLT, Int.reduceNeg, reduceMod, sid_ne1, sid_ne2, sid_inj, sid_mod, gT, TK.isInt, TK.agg, Array.toList, h0a, h1a, h17a, h18a, h19a, hw, toNat_pred]
  refine ⟨fun h => ⟨h, h, askK_of (c_impl_IsSet _ _) ?_⟩, fun h => ?_⟩
  · simp (maxSteps:=5000000) -dsimp only [↓gp, gq, reduceCtorEq, reduceEqDiff, reduceLT, reduceLeDiff, reduceAdd, reduceMul, reduceSub, Nat.reduceBEq, Int.reduceToNat, Int.reduceLE, Int.reduceLT, Int.reduceNeg, reduceMod, sid_ne1, sid_ne2, sid_inj, sid_mod, gT, TK.isInt, TK.agg, Array.toList, h0a, h1a, h17a, h18a, h19a, hw, toNat_pred]
    refine ⟨fun hs => ?_, fun hs => ⟨fun h0 => ⟨by omega, by omega, by omega, askK_of (c_impl_BeforeSet _ _) ?_⟩, fun h0 => ?_⟩⟩
    · have hs : inSet n (xs.getD k 0) = false := by rwa [Bool.not_eq_true'] at hs
      exact isCx_no fun hg => by have := (hg.2.2 k h).1; rw [hs] at this; cases this
    · simp (maxSteps:=5000000) -dsimp only [↓gp, gq, reduceCtorEq, reduceEqDiff, reduceLT, reduceLeDiff, reduceAdd, reduceMul, reduceSub, Nat.reduceBEq, Int.reduceToNat, Int.reduceLE, Int.reduceLT, Int.reduceNeg, reduceMod, sid_ne1, sid_ne2, sid_inj, sid_mod, gT, TK.isInt, TK.agg, Array.toList, h0a, h1a, h17a, h18a, h19a, hw, toNat_pred]
      refine ⟨fun hb => isCx_no fun hg => ?_, fun hb => again_of (k + 1) ⟨(by (first | (simp (maxSteps:=5000000) -dsimp only [gr, reduceEqDiff, reduceLT, reduceAdd, reduceMod, Nat.reduceBEq, sid_mod, sid_ne1, sid_ne2, sid_inj, h0a, h1a, h17a, h18a, h19a, wrap_nat h hl]; first | done | rfl | (simp; done)) | assumption | rfl)), (by (first | (simp (maxSteps:=5000000) -dsimp only [gr, reduceEqDiff, reduceLT, reduceAdd, reduceMod, Nat.reduceBEq, sid_mod, sid_ne1, sid_ne2, sid_inj, h0a, h1a, h17a, h18a, h19a, wrap_nat h hl]; first | done | rfl | (simp; done)) | assumption | rfl)), (by (first | (simp (maxSteps:=5000000) -dsimp only [gr, reduceEqDiff, reduceLT, reduceAdd, reduceMod, Nat.reduceBEq, sid_mod, sid_ne1, sid_ne2, sid_inj, h0a, h1a, h17a, h18a, h19a, wrap_nat h hl]; first | done | rfl | (simp; done)) | assumption | rfl)), (by (first | (simp (maxSteps:=5000000) -dsimp only [gr, reduceEqDiff, reduceLT, reduceAdd, reduceMod, Nat.reduceBEq, sid_mod, sid_ne1, sid_ne2, sid_inj, h0a, h1a, h17a, h18a, h19a, wrap_nat h hl]; first | done | rfl | (simp; done)) | assumption | rfl)), (by (first | (simp (maxSteps:=5000000) -dsimp only [gr, reduceEqDiff, reduceLT, reduceAdd, reduceMod, Nat.reduceBEq, sid_mod, sid_ne1, sid_ne2, sid_inj, h0a, h1a, h17a, h18a, h19a, wrap_nat h hl]; first | done | rfl | (simp; done)) | assumption | rfl)), ⟨by omega, fun j hj => ?_⟩⟩ (by first | omega | (simp only; omega) | (dsimp only; omega) | (show _ < _; simp; omega))⟩
      · have := (hg.2.2 k h).2.1 (by omega)
        rw [this] at hb; cases hb
      · rcases Nat.lt_succ_iff_lt_or_eq.1 hj with hj | rfl
        · exact hall j hj
        · exact ⟨by rwa [Bool.not_eq_false'] at hs, fun _ => by rwa [Bool.not_eq_false'] at hb⟩
    · refine again_of (k + 1) ⟨(by (first | (simp (maxSteps:=5000000) -dsimp only [gr, reduceEqDiff, reduceLT, reduceAdd, reduceMod, Nat.reduceBEq, sid_mod, sid_ne1, sid_ne2, sid_inj, h0a, h1a, h17a, h18a, h19a, wrap_nat h hl]; first | done | rfl | (simp; done)) | assumption | rfl)), (by (first | (simp (maxSteps:=5000000) -dsimp only [gr, reduceEqDiff, reduceLT, reduceAdd, reduceMod, Nat.reduceBEq, sid_mod, sid_ne1, sid_ne2, sid_inj, h0a, h1a, h17a, h18a, h19a, wrap_nat h hl]; first | done | rfl | (simp; done)) | assumption | rfl)), (by (first | (simp (maxSteps:=5000000) -dsimp only [gr, reduceEqDiff, reduceLT, reduceAdd, reduceMod, Nat.reduceBEq, sid_mod, sid_ne1, sid_ne2, sid_inj, h0a, h1a, h17a, h18a, h19a, wrap_nat h hl]; first | done | rfl | (simp; done)) | assumption | rfl)), (by (first | (simp (maxSteps:=5000000) -dsimp only [gr, reduceEqDiff, reduceLT, reduceAdd, reduceMod, Nat.reduceBEq, sid_mod, sid_ne1, sid_ne2, sid_inj, h0a, h1a, h17a, h18a, h19a, wrap_nat h hl]; first | done | rfl | (simp; done)) | assumption | rfl)), (by (first | (simp (maxSteps:=5000000) -dsimp only [gr, reduceEqDiff, reduceLT, reduceAdd, reduceMod, Nat.reduceBEq, sid_mod, sid_ne1, sid_ne2, sid_inj, h0a, h1a, h17a, h18a, h19a, wrap_nat h hl]; first | done | rfl | (simp; done)) | assumption | rfl)), ⟨by omega, fun j hj => ?_⟩⟩ (by first | omega | (simp only; omega) | (dsimp only; omega) | (show _ < _; simp; omega))
      rcases Nat.lt_succ_iff_lt_or_eq.1 hj with hj | rfl
      · exact hall j hj
      · exact ⟨by rwa [Bool.not_eq_false'] at hs, fun _ => by omega⟩
  · have hall' : ∀ i, i < xs.length → inSet n (xs.getD i 0) = true ∧ (0 < i → befS (xs.getD (i - 1) 0) (xs.getD i 0) = true) := fun i hi => hall i (by omega)
    clear hw hall
    have hsub : ∀ i j, i < xs.length → j < xs.length → (iandnot .i64 (xs.getD i 0) (xs.getD j 0) = 0 ↔ iand .i64 (xs.getD i 0) (xs.getD j 0) = xs.getD i 0) := fun i j hi hj => andnot_zero (inSet_lt (hall' i hi).1) (inSet_lt (hall' j hj).1)
    refine loop_of (fun (i : Nat) s => s.sl 1 = ints xs ∧ s.sl 41 = ints xs ∧ s.sl 42 = int xs.length ∧ s.sl 43 = int i ∧ (i ≤ xs.length ∧ ∀ j k, j < i → j < k → k < xs.length → iand .i64 (xs.getD j 0) (xs.getD k 0) ≠ xs.getD j 0)) (fun i => xs.length - i) (0) (by refine ⟨?_, ?_, ?_, ?_, by simp⟩ <;> (first | (simp (maxSteps:=5000000) -dsimp only [gr, reduceEqDiff, reduceLT, reduceAdd, reduceMod, Nat.reduceBEq, sid_mod, sid_ne1, sid_ne2, sid_inj, h0a, h1a, h17a, h18a, h19a]; first | done | rfl | (simp; done)) | assumption | rfl)) ?_
    intro i sb ⟨h1b, h41b, h42b, h43b, hIb⟩
    obtain ⟨hi, hin⟩ := hIb
    have hwi : i < xs.length → IntKind.i64.wrap ((i : Int) + 1) = ((i + 1 : Nat) : Int) := fun h => wrap_nat h hl
    simp (maxSteps:=5000000) -dsimp only [↓gp, gq, reduceCtorEq, reduceEqDiff, reduceLT, reduceLeDiff, reduceAdd, reduceMul, reduceSub, Nat.reduceBEq, Int.reduceToNat, Int.reduceLE, Int.reduceLT, Int.reduceNeg, reduceMod, sid_ne1, sid_ne2, sid_inj, sid_mod, gT, TK.isInt, TK.agg, Array.toList, h1b, h41b, h42b, h43b]
    refine ⟨fun hlt => ?_, fun hge => isCx_yes ⟨by omega, by omega, fun k hk => ⟨(hall' k hk).1, (hall' k hk).2, fun j hj => hin j k (by omega) hj hk⟩⟩⟩
    rw [hwi hlt]
    refine ⟨hlt, hlt, by omega, by omega, ?_⟩
    refine loop_of (fun (j : Nat) s => s.sl 1 = ints xs ∧ s.sl 41 = ints xs ∧ s.sl 42 = int xs.length ∧ s.sl 43 = int i ∧ s.sl 8 = int (xs.getD i 0) ∧ s.sl 51 = ints (xs.drop (i + 1)) ∧ s.sl 52 = int (xs.length - (i + 1) : Nat) ∧ s.sl 53 = int j ∧ (j ≤ xs.length - (i + 1) ∧ ∀ k, k < j → iand .i64 (xs.getD i 0) (xs.getD (i + 1 + k) 0) ≠ xs.getD i 0)) (fun j => xs.length - (i + 1) - j) (0) (by refine ⟨?_, ?_, ?_, ?_, ?_, ?_, ?_, ?_, by simp⟩ <;> (first | (simp (maxSteps:=5000000) -dsimp only [gr, reduceEqDiff, reduceLT, reduceAdd, reduceMod, Nat.reduceBEq, sid_mod, sid_ne1, sid_ne2, sid_inj, h1b, h41b, h42b, h43b]; first | done | rfl | (simp; done)) | assumption | rfl)) ?_
    intro j sc ⟨h1c, h41c, h42c, h43c, h8c, h51c, h52c, h53c, hIc⟩
    obtain ⟨hj, hinn⟩ := hIc
    have hd : ∀ j, (xs.drop (i + 1)).getD j 0 = xs.getD (i + 1 + j) 0 := fun j => by simp [List.getD]
    simp (maxSteps:=5000000) -dsimp only [↓gp, gq, reduceCtorEq, reduceEqDiff, reduceLT, reduceLeDiff, reduceAdd, reduceMul, reduceSub, Nat.reduceBEq, Int.reduceToNat, Int.reduceLE, Int.reduceLT, Int.reduceNeg, reduceMod, sid_ne1, sid_ne2, sid_inj, sid_mod, gT, TK.isInt, TK.agg, Array.toList, h1c, h41c, h42c, h43c, h8c, h51c, h52c, h53c, hd, List.length_drop]
    refine ⟨fun h2 => ⟨h2, h2, fun he => ?_, fun he => again_of (j + 1) ⟨(by (first | (simp (maxSteps:=5000000) -dsimp only [gr, reduceEqDiff, reduceLT, reduceAdd, reduceMod, Nat.reduceBEq, sid_mod, sid_ne1, sid_ne2, sid_inj, h1c, h41c, h42c, h43c, h8c, h51c, h52c, h53c, wrap_nat h2 (by omega)]; first | done | rfl | (simp; done)) | assumption | rfl)), (by (first | (simp (maxSteps:=5000000) -dsimp only [gr, reduceEqDiff, reduceLT, reduceAdd, reduceMod, Nat.reduceBEq, sid_mod, sid_ne1, sid_ne2, sid_inj, h1c, h41c, h42c, h43c, h8c, h51c, h52c, h53c, wrap_nat h2 (by omega)]; first | done | rfl | (simp; done)) | assumption | rfl)), (by (first | (simp (maxSteps:=5000000) -dsimp only [gr, reduceEqDiff, reduceLT, reduceAdd, reduceMod, Nat.reduceBEq, sid_mod, sid_ne1, sid_ne2, sid_inj, h1c, h41c, h42c, h43c, h8c, h51c, h52c, h53c, wrap_nat h2 (by omega)]; first | done | rfl | (simp; done)) | assumption | rfl)), (by (first | (simp (maxSteps:=5000000) -dsimp only [gr, reduceEqDiff, reduceLT, reduceAdd, reduceMod, Nat.reduceBEq, sid_mod, sid_ne1, sid_ne2, sid_inj, h1c, h41c, h42c, h43c, h8c, h51c, h52c, h53c, wrap_nat h2 (by omega)]; first | done | rfl | (simp; done)) | assumption | rfl)), (by (first | (simp (maxSteps:=5000000) -dsimp only [gr, reduceEqDiff, reduceLT, reduceAdd, reduceMod, Nat.reduceBEq, sid_mod, sid_ne1, sid_ne2, sid_inj, h1c, h41c, h42c, h43c, h8c, h51c, h52c, h53c, wrap_nat h2 (by omega)]; first | done | rfl | (simp; done)) | assumption | rfl)), (by (first | (simp (maxSteps:=5000000) -dsimp only [gr, reduceEqDiff, reduceLT, reduceAdd, reduceMod, Nat.reduceBEq, sid_mod, sid_ne1, sid_ne2, sid_inj, h1c, h41c, h42c, h43c, h8c, h51c, h52c, h53c, wrap_nat h2 (by omega)]; first | done | rfl | (simp; done)) | assumption | rfl)), (by (first | (simp (maxSteps:=5000000) -dsimp only [gr, reduceEqDiff, reduceLT, reduceAdd, reduceMod, Nat.reduceBEq, sid_mod, sid_ne1, sid_ne2, sid_inj, h1c, h41c, h42c, h43c, h8c, h51c, h52c, h53c, wrap_nat h2 (by omega)]; first | done | rfl | (simp; done)) | assumption | rfl)), (by (first | (simp (maxSteps:=5000000) -dsimp only [gr, reduceEqDiff, reduceLT, reduceAdd, reduceMod, Nat.reduceBEq, sid_mod, sid_ne1, sid_ne2, sid_inj, h1c, h41c, h42c, h43c, h8c, h51c, h52c, h53c, wrap_nat h2 (by omega)]; first | done | rfl | (simp; done)) | assumption | rfl)), ⟨by omega, fun k hk => ?_⟩⟩ (by first | omega | (simp only; omega) | (dsimp only; omega) | (show _ < _; simp; omega))⟩, fun h2 => again_of (i + 1) ⟨(by (first | (simp (maxSteps:=5000000) -dsimp only [gr, reduceEqDiff, reduceLT, reduceAdd, reduceMod, Nat.reduceBEq, sid_mod, sid_ne1, sid_ne2, sid_inj, h1b, h41b, h42b, h43b, h1c, h41c, h42c, h43c, h8c, h51c, h52c, h53c, hwi hlt]; first | done | rfl | (simp; done)) | assumption | rfl)), (by (first | (simp (maxSteps:=5000000) -dsimp only [gr, reduceEqDiff, reduceLT, reduceAdd, reduceMod, Nat.reduceBEq, sid_mod, sid_ne1, sid_ne2, sid_inj, h1b, h41b, h42b, h43b, h1c, h41c, h42c, h43c, h8c, h51c, h52c, h53c, hwi hlt]; first | done | rfl | (simp; done)) | assumption | rfl)), (by (first | (simp (maxSteps:=5000000) -dsimp only [gr, reduceEqDiff, reduceLT, reduceAdd, reduceMod, Nat.reduceBEq, sid_mod, sid_ne1, sid_ne2, sid_inj, h1b, h41b, h42b, h43b, h1c, h41c, h42c, h43c, h8c, h51c, h52c, h53c, hwi hlt]; first | done | rfl | (simp; done)) | assumption | rfl)), (by (first | (simp (maxSteps:=5000000) -dsimp only [gr, reduceEqDiff, reduceLT, reduceAdd, reduceMod, Nat.reduceBEq, sid_mod, sid_ne1, sid_ne2, sid_inj, h1b, h41b, h42b, h43b, h1c, h41c, h42c, h43c, h8c, h51c, h52c, h53c, hwi hlt]; first | done | rfl | (simp; done)) | assumption | rfl)), ⟨by omega, fun j k hj' hk hk' => ?_⟩⟩ (by first | omega | (simp only; omega) | (dsimp only; omega) | (show _ < _; simp; omega))⟩
    · refine isCx_no fun hg => (hg.2.2 (i + 1 + j) (by omega)).2.2 i (by omega) ((hsub i (i + 1 + j) hlt (by omega)).1 (by simpa using he))
    · rcases Nat.lt_succ_iff_lt_or_eq.1 hk with hk | rfl
      · exact hinn k hk
      · intro e
        have := (hsub i (i + 1 + k) hlt (by omega)).2 e
        rw [this] at he
        simp at he
    · rcases Nat.lt_succ_iff_lt_or_eq.1 hj' with hj' | rfl
      · exact hin j k hj' hk hk'
      · have := hinn (k - (j + 1)) (by omega)
        rwa [show j + 1 + (k - (j + 1)) = k by omega] at this
theorem befS_irrefl (a : Int) : befS a a = false := by unfold befS; simp
theorem befS_trans {a b c : Int} (h1 : befS a b = true) (h2 : befS b c = true) : befS a c = true := by
  unfold befS at *
  simp only [Bool.and_eq_true, decide_eq_true_eq] at *
  obtain ⟨ha, hb, h1⟩ := h1
  obtain ⟨_, hc, h2⟩ := h2
  refine ⟨ha, hc, ?_⟩
  split at h1 <;> split at h2 <;> simp only [decide_eq_true_eq] at h1 h2
  · rw [if_pos (by omega)]; exact decide_eq_true (by omega)
  · rw [if_neg (by omega)]; exact decide_eq_true (by omega)
  · rw [if_neg (by omega)]; exact decide_eq_true (by omega)
  · rw [if_neg (by omega)]; exact decide_eq_true (by omega)
theorem cx_sorted {n : Int} {xs : List Int} (h : cxP n xs) : ∀ (j i : Nat), i < j → j < xs.length → befS (xs.getD i 0) (xs.getD j 0) = true := by
  intro j
  induction j with
  | zero => intro i hi; omega
  | succ j ih =>
    intro i hi hj
    have h1 := (h.2.2 (j + 1) hj).2.1 (by omega)
    rw [Nat.add_sub_cancel] at h1
    rcases Nat.lt_succ_iff_lt_or_eq.1 hi with hi | rfl
    · exact befS_trans (ih i hi (by omega)) h1
    · exact h1
theorem cx_nodup {n : Int} {xs : List Int} (h : cxP n xs) : xs.Nodup := by
  refine List.pairwise_iff_getElem.2 fun i j hi hj hij e => ?_
  have := cx_sorted h j i hij hj
  rw [getD_at 0 hi, getD_at 0 hj, e, befS_irrefl] at this
  cases this
theorem inSet_nat {n s : Int} (h : inSet n s = true) : ∃ m t : Nat, n = m ∧ s = t ∧ m ≤ 6 ∧ t < 2 ^ m := by
  unfold inSet at h
  have h := of_decide_eq_true h
  obtain ⟨m, rfl⟩ := Int.eq_ofNat_of_zero_le h.1
  obtain ⟨t, rfl⟩ := Int.eq_ofNat_of_zero_le h.2.2.1
  refine ⟨m, t, rfl, rfl, by omega, ?_⟩
  have := h.2.2.2
  rw [pow_nat] at this
  omega
def okS (xs : List Int) : Prop := ∀ x ∈ xs, 0 ≤ x ∧ x < 64
theorem okS_at {xs : List Int} (h : okS xs) {k : Nat} (hk : k < xs.length) : 0 ≤ xs.getD k 0 ∧ xs.getD k 0 < 64 := h _ (getD_mem 0 hk)
theorem cx_ok {n : Int} {xs : List Int} (h : isCx n xs = true) : okS xs := fun x hx => by
  obtain ⟨i, hi, rfl⟩ := mem_getD 0 hx
  exact inSet_lt ((isCx_iff.1 h).2.2 i hi).1
theorem inF_ofN (l : List Nat) (s : Nat) : inF (ofN l) s = decide (s ∈ l) := by
  unfold inF ofN
  refine decide_eq_decide.2 ?_
  simp only [List.mem_map]
  exact ⟨fun ⟨a, h1, h2⟩ => by have : a = s := by omega
                               exact this ▸ h1, fun h => ⟨s, h, rfl⟩⟩
theorem ofN_ok {l : List Nat} (h : ∀ s ∈ l, s < 64) : ∀ x ∈ ofN l, 0 ≤ x ∧ x < 64 := fun x hx => by
  obtain ⟨s, hs, rfl⟩ := List.mem_map.1 hx
  have := h s hs
  omega
theorem maskF_full (w : Nat → Bool) {G : Nat} (hF : G < 2 ^ 64) (h : ∀ s, s < 64 → G.testBit s = w s) : G = maskF w 64 := by
  refine Nat.eq_of_testBit_eq fun s => ?_
  rw [maskF_bit]
  by_cases hs : s < 64
  · rw [h s hs]; simp [hs]
  · have : G.testBit s = false := Nat.testBit_lt_two_pow (Nat.lt_of_lt_of_le hF (Nat.pow_le_pow_right (by omega) (by omega)))
    simp [this, hs]
theorem mask_bit64 (w : Nat → Bool) {s : Nat} (h : s < 64) : (maskF w 64).testBit s = w s := by rw [maskF_bit]; simp [h]
theorem mask_congr {w w' : Nat → Bool} (h : ∀ s, s < 64 → w s = w' s) : maskF w 64 = maskF w' 64 :=
  maskF_full w' (maskF_lt w 64) fun s hs => by rw [mask_bit64 w hs, h s hs]
theorem mask_or (w w' : Nat → Bool) : maskF w 64 ||| maskF w' 64 = maskF (fun s => w s || w' s) 64 :=
  maskF_full _ (Nat.or_lt_two_pow (maskF_lt w 64) (maskF_lt w' 64)) fun s hs => by rw [Nat.testBit_or, mask_bit64 w hs, mask_bit64 w' hs]
theorem mask_bitor (w : Nat → Bool) {t : Nat} (ht : t < 64) : maskF w 64 ||| 2 ^ t = maskF (fun s => w s || s == t) 64 :=
  maskF_full _ (Nat.or_lt_two_pow (maskF_lt w 64) (Nat.pow_lt_pow_right (by omega) ht)) fun s hs => by
    rw [Nat.testBit_or, mask_bit64 w hs, Nat.testBit_two_pow]
    congr 1
    by_cases e : t = s
    · simp [e]
    · simp [e]; exact fun h => e h.symm
theorem mask_none : maskF (fun _ => false) 64 = 0 := (maskF_full (G := 0) (fun _ => false) (by omega) (fun s _ => by simp)).symm
def subB (u : Nat) (t : Nat) : Bool := u &&& t == t
theorem c_impl_subsetFamily (u : Nat) (hu : u < 64) : AC Tryz.prog 212 [int u] (.im (u64 (maskF (subB u) 64 : Nat))) := by
  refine AC.go (rs := [.tmp 2]) T_ok mixed Tryz.func212 rfl rfl rfl (by kernel_rfl) fun hl => ?_
  simp (maxSteps:=5000000) -dsimp only [↓gp, gq, reduceCtorEq, reduceEqDiff, reduceLT, reduceLeDiff, reduceAdd, reduceMul, reduceSub, Nat.reduceBEq, Int.reduceToNat, Int.reduceLE, Int.reduceLT, Int.reduceNeg, reduceMod, sid_ne1, sid_ne2, sid_inj, sid_mod, gT, TK.isInt, TK.agg, Array.toList]
  have hinit : maskF (fun v => subB u v && decide (u < v)) 64 = 0 := by
    rw [← mask_none]
    refine mask_congr fun v hv => ?_
    cases h : (subB u v && decide (u < v)) with
    | false => rfl
    | true =>
      simp [subB] at h
      have : u &&& v ≤ u := Nat.and_le_left
      omega
  refine loop_of (fun (t : Nat) s => s.sl 0 = int u ∧ s.sl 3 = u64 (maskF (fun v => subB u v && decide (t < v)) 64 : Nat) ∧ s.sl 4 = int t ∧ (t ≤ u ∧ u &&& t = t)) (fun t => t) (u) (by refine ⟨?_, ?_, ?_, ⟨Nat.le_refl _, Nat.and_self u⟩⟩ <;> (first | (simp (maxSteps:=5000000) -dsimp only [gr, reduceEqDiff, reduceLT, reduceAdd, reduceMod, Nat.reduceBEq, sid_mod, sid_ne1, sid_ne2, sid_inj, hinit]; first | done | rfl | (simp; done)) | assumption | rfl)) ?_
  intro t sa ⟨h0a, h3a, h4a, hIa⟩
  obtain ⟨htu, hts⟩ := hIa
  have hlt := maskF_lt (fun v => subB u v && decide (t < v)) 64
  have hcv : IntKind.u64.wrap (t : Int) = (t : Int) := uwrap_id (by omega)
  have h2t : (2 : Nat) ^ t < 18446744073709551616 := by
    have : (2 : Nat) ^ t < 2 ^ 64 := Nat.pow_lt_pow_right (by omega) (by omega)
    omega
  have hor : ior .u64 (maskF (fun v => subB u v && decide (t < v)) 64 : Nat) (ishl .u64 1 (t : Int)) = ((maskF (fun v => subB u v && decide (t ≤ v)) 64 : Nat) : Int) := by
    rw [ishl_u (by omega), ior_u (by omega) h2t, mask_bitor _ (by omega)]
    congr 1
    refine mask_congr fun v hv => ?_
    by_cases e : v = t
    · subst e; simp [subB, hts]
    · have e1 : decide (t < v) = decide (t ≤ v) := decide_eq_decide.2 (by omega)
      simp [e, e1]
  simp (maxSteps:=5000000) -dsimp only [↓gp, gq, reduceCtorEq, reduceEqDiff, reduceLT, reduceLeDiff, reduceAdd, reduceMul, reduceSub, Nat.reduceBEq, Int.reduceToNat, Int.reduceLE, Int.reduceLT, Int.reduceNeg, reduceMod, sid_ne1, sid_ne2, sid_inj, sid_mod, gT, TK.isInt, TK.agg, Array.toList, h0a, h3a, h4a, hcv, hor]
  refine ⟨fun h0 => ?_, fun h0 => ?_⟩
  · have : t = 0 := by simp at h0; omega
    subst this
    simp
  · have h0 : ¬ t = 0 := by
      intro e; subst e; simp at h0
    have hw : IntKind.i64.wrap ((t : Int) - 1) = ((t - 1 : Nat) : Int) := by rw [wrap_id (by omega) (by omega)]; omega
    have hand := iand_nat (a := t - 1) (b := u) (by omega) (by omega)
    have hle : (t - 1) &&& u ≤ t - 1 := Nat.and_le_left
    have hnext : maskF (fun v => subB u v && decide ((t - 1) &&& u < v)) 64 = maskF (fun v => subB u v && decide (t ≤ v)) 64 := by
      refine mask_congr fun v hv => ?_
      cases hs : subB u v with
      | false => rfl
      | true =>
        simp only [Bool.true_and]
        refine decide_eq_decide.2 ⟨fun h => ?_, fun h => by omega⟩
        rcases Nat.lt_or_ge v t with h2 | h2
        · have := sub_next u hu t (by omega) (by rw [Nat.and_comm]; exact hts) h0 v h2 (by rw [Nat.and_comm]; simpa [subB] using hs)
          omega
        · exact h2
    simp (maxSteps:=5000000) -dsimp only [↓gp, gq, reduceCtorEq, reduceEqDiff, reduceLT, reduceLeDiff, reduceAdd, reduceMul, reduceSub, Nat.reduceBEq, Int.reduceToNat, Int.reduceLE, Int.reduceLT, Int.reduceNeg, reduceMod, sid_ne1, sid_ne2, sid_inj, sid_mod, gT, TK.isInt, TK.agg, Array.toList, h0a, h3a, h4a, hcv, hor, hw, hand]
    exact again_of ((t - 1) &&& u) (by refine ⟨?_, ?_, ?_, ⟨by omega, by rw [Nat.and_comm, Nat.and_assoc, Nat.and_self]⟩⟩ <;> (first | (simp (maxSteps:=5000000) -dsimp only [gr, reduceEqDiff, reduceLT, reduceAdd, reduceMod, Nat.reduceBEq, sid_mod, sid_ne1, sid_ne2, sid_inj, h0a, h3a, h4a, hcv, hor, hw, hand, hnext]; first | done | rfl | (simp; done)) | assumption | rfl)) (by first | omega | (simp only; omega) | (dsimp only; omega) | (show _ < _; simp; omega))
theorem faceB_snoc {xs : List Int} {k t : Nat} (h : k < xs.length) : faceB (xs.take (k + 1)) t = (faceB (xs.take k) t || subB (xs.getD k 0).toNat t) := by
  rw [take_snoc 0 h]
  unfold faceB subB
  rw [List.any_append]
  simp
theorem c_impl_facesIn (n : Int) (xs : List Int) (hx : okS xs) : AC Tryz.prog 180 [.ag [int n, ints xs]] (.im (u64 (maskF (faceB xs) 64 : Nat))) := by
  refine AC.go (rs := [.tmp 2]) T_ok mixed Tryz.func180 rfl rfl rfl (by kernel_rfl) fun hl => ?_
  simp only [lens_cons, lens_nil, and_true, lens2_ag2, lens1_v, lens1_iL, lens2_v, true_and] at hl
  simp (maxSteps:=5000000) -dsimp only [↓gp, gq, reduceCtorEq, reduceEqDiff, reduceLT, reduceLeDiff, reduceAdd, reduceMul, reduceSub, Nat.reduceBEq, Int.reduceToNat, Int.reduceLE, Int.reduceLT, Int.reduceNeg, reduceMod, sid_ne1, sid_ne2, sid_inj, sid_mod, gT, TK.isInt, TK.agg, Array.toList]
  have hinit : maskF (faceB (xs.take 0)) 64 = 0 := mask_none
  refine loop_of (fun (k : Nat) s => s.sl 3 = u64 (maskF (faceB (xs.take k)) 64 : Nat) ∧ s.sl 7 = ints xs ∧ s.sl 8 = int xs.length ∧ s.sl 9 = int k ∧ (k ≤ xs.length)) (fun k => xs.length - k) (0) (by refine ⟨?_, ?_, ?_, ?_, by omega⟩ <;> (first | (simp (maxSteps:=5000000) -dsimp only [gr, reduceEqDiff, reduceLT, reduceAdd, reduceMod, Nat.reduceBEq, sid_mod, sid_ne1, sid_ne2, sid_inj, hinit]; first | done | rfl | (simp; done)) | assumption | rfl)) ?_
  intro k sa ⟨h3a, h7a, h8a, h9a, hIa⟩
  simp (maxSteps:=5000000) -dsimp only [↓gp, gq, reduceCtorEq, reduceEqDiff, reduceLT, reduceLeDiff, reduceAdd, reduceMul, reduceSub, Nat.reduceBEq, Int.reduceToNat, Int.reduceLE, Int.reduceLT, Int.reduceNeg, reduceMod, sid_ne1, sid_ne2, sid_inj, sid_mod, gT, TK.isInt, TK.agg, Array.toList, h3a, h7a, h8a, h9a]
  refine ⟨fun h => ⟨h, h, ?_⟩, fun h => ?_⟩
  · have h6 := okS_at hx h
    have hn : xs.getD k 0 = ((xs.getD k 0).toNat : Int) := by omega
    have hc := c_impl_subsetFamily (xs.getD k 0).toNat (by omega)
    rw [← hn] at hc
    refine askK_of hc ?_
    have hm1 := maskF_lt (faceB (xs.take k)) 64
    have hm2 := maskF_lt (subB (xs.getD k 0).toNat) 64
    have hor : ior .u64 (maskF (faceB (xs.take k)) 64 : Nat) (maskF (subB (xs.getD k 0).toNat) 64 : Nat) = ((maskF (faceB (xs.take (k + 1))) 64 : Nat) : Int) := by
      rw [ior_u (by omega) (by omega), mask_or]
      congr 1
      exact mask_congr fun t _ => (faceB_snoc h).symm
    simp (maxSteps:=5000000) -dsimp only [↓gp, gq, reduceCtorEq, reduceEqDiff, reduceLT, reduceLeDiff, reduceAdd, reduceMul, reduceSub, Nat.reduceBEq, Int.reduceToNat, Int.reduceLE, Int.reduceLT, Int.reduceNeg, reduceMod, sid_ne1, sid_ne2, sid_inj, sid_mod, gT, TK.isInt, TK.agg, Array.toList, h3a, h7a, h8a, h9a, hor]
    exact again_of (k + 1) (by refine ⟨?_, ?_, ?_, ?_, by omega⟩ <;> (first | (simp (maxSteps:=5000000) -dsimp only [gr, reduceEqDiff, reduceLT, reduceAdd, reduceMod, Nat.reduceBEq, sid_mod, sid_ne1, sid_ne2, sid_inj, h3a, h7a, h8a, h9a, wrap_nat h hl, hor]; first | done | rfl | (simp; done)) | assumption | rfl)) (by first | omega | (simp only; omega) | (dsimp only; omega) | (show _ < _; simp; omega))
  · have : k = xs.length := by omega
    rw [this, List.take_length]
theorem szOf_nat {t : Nat} (h : t < 64) : szOf (t : Int) = (popN t : Nat) := by rw [szOf, if_pos (by omega)]; simp
theorem topP_succ (f : Nat → Bool) (m : Nat) : topP f (m + 1) = if f m = true then max (topP f m) (popN m + 1) else topP f m := rfl
theorem c_impl_topSize (f : Nat → Bool) : AC Tryz.prog 211 [u64 (maskF f 64 : Nat)] (.im (int ((dimN f : Int) - 1))) := by
  refine AC.go (rs := [.tmp 2]) T_ok mixed Tryz.func211 rfl rfl rfl (by kernel_rfl) fun hl => ?_
  simp (maxSteps:=5000000) -dsimp only [↓gp, gq, reduceCtorEq, reduceEqDiff, reduceLT, reduceLeDiff, reduceAdd, reduceMul, reduceSub, Nat.reduceBEq, Int.reduceToNat, Int.reduceLE, Int.reduceLT, Int.reduceNeg, reduceMod, sid_ne1, sid_ne2, sid_inj, sid_mod, gT, TK.isInt, TK.agg, Array.toList]
  have hm1 := maskF_lt f 64
  refine loop_of (fun (m : Nat) s => s.sl 0 = u64 (maskF f 64 : Nat) ∧ s.sl 3 = int ((topP f m : Int) - 1) ∧ s.sl 4 = int m ∧ (m ≤ 64)) (fun m => 64 - m) (0) (by refine ⟨?_, ?_, ?_, by omega⟩ <;> (first | (simp (maxSteps:=5000000) -dsimp only [gr, reduceEqDiff, reduceLT, reduceAdd, reduceMod, Nat.reduceBEq, sid_mod, sid_ne1, sid_ne2, sid_inj, topP]; first | done | rfl | (simp; done)) | assumption | rfl)) ?_
  intro m sa ⟨h0a, h3a, h4a, hIa⟩
  simp (maxSteps:=5000000) -dsimp only [↓gp, gq, reduceCtorEq, reduceEqDiff, reduceLT, reduceLeDiff, reduceAdd, reduceMul, reduceSub, Nat.reduceBEq, Int.reduceToNat, Int.reduceLE, Int.reduceLT, Int.reduceNeg, reduceMod, sid_ne1, sid_ne2, sid_inj, sid_mod, gT, TK.isInt, TK.agg, Array.toList, h0a, h3a, h4a]
  refine ⟨fun h => askK_of (c_impl_hasSet (maskF f 64) m (by omega) (by omega)) ?_, fun h => ?_⟩
  · have h : m < 64 := by omega
    rw [mask_bit64 f h]
    simp (maxSteps:=5000000) -dsimp only [↓gp, gq, reduceCtorEq, reduceEqDiff, reduceLT, reduceLeDiff, reduceAdd, reduceMul, reduceSub, Nat.reduceBEq, Int.reduceToNat, Int.reduceLE, Int.reduceLT, Int.reduceNeg, reduceMod, sid_ne1, sid_ne2, sid_inj, sid_mod, gT, TK.isInt, TK.agg, Array.toList, h0a, h3a, h4a]
    refine ⟨fun hf => askK_of (c_impl_SizeOf _) ?_, fun hf => ?_⟩
    · simp (maxSteps:=5000000) -dsimp only [↓gp, gq, reduceCtorEq, reduceEqDiff, reduceLT, reduceLeDiff, reduceAdd, reduceMul, reduceSub, Nat.reduceBEq, Int.reduceToNat, Int.reduceLE, Int.reduceLT, Int.reduceNeg, reduceMod, sid_ne1, sid_ne2, sid_inj, sid_mod, gT, TK.isInt, TK.agg, Array.toList, h0a, h3a, h4a, szOf_nat h]
      refine ⟨fun hg => askK_of (c_impl_SizeOf _) ?_, fun hg => ?_⟩
      · simp (maxSteps:=5000000) -dsimp only [↓gp, gq, reduceCtorEq, reduceEqDiff, reduceLT, reduceLeDiff, reduceAdd, reduceMul, reduceSub, Nat.reduceBEq, Int.reduceToNat, Int.reduceLE, Int.reduceLT, Int.reduceNeg, reduceMod, sid_ne1, sid_ne2, sid_inj, sid_mod, gT, TK.isInt, TK.agg, Array.toList, h0a, h3a, h4a, szOf_nat h]
        have e : (topP f (m + 1) : Int) - 1 = (popN m : Int) := by rw [topP_succ, if_pos hf]; omega
        exact again_of (m + 1) (by refine ⟨?_, ?_, ?_, by omega⟩ <;> (first | (simp (maxSteps:=5000000) -dsimp only [gr, reduceEqDiff, reduceLT, reduceAdd, reduceMod, Nat.reduceBEq, sid_mod, sid_ne1, sid_ne2, sid_inj, h0a, h3a, h4a, wrap_nat h (by omega), szOf_nat h, e]; first | done | rfl | (simp; done)) | assumption | rfl)) (by first | omega | (simp only; omega) | (dsimp only; omega) | (show _ < _; simp; omega))
      · have e : topP f (m + 1) = topP f m := by rw [topP_succ, if_pos hf]; omega
        exact again_of (m + 1) (by refine ⟨?_, ?_, ?_, by omega⟩ <;> (first | (simp (maxSteps:=5000000) -dsimp only [gr, reduceEqDiff, reduceLT, reduceAdd, reduceMod, Nat.reduceBEq, sid_mod, sid_ne1, sid_ne2, sid_inj, h0a, h3a, h4a, wrap_nat h (by omega), e]; first | done | rfl | (simp; done)) | assumption | rfl)) (by first | omega | (simp only; omega) | (dsimp only; omega) | (show _ < _; simp; omega))
    · have e : topP f (m + 1) = topP f m := by rw [topP_succ, if_neg (by rw [hf]; decide)]
      exact again_of (m + 1) (by refine ⟨?_, ?_, ?_, by omega⟩ <;> (first | (simp (maxSteps:=5000000) -dsimp only [gr, reduceEqDiff, reduceLT, reduceAdd, reduceMod, Nat.reduceBEq, sid_mod, sid_ne1, sid_ne2, sid_inj, h0a, h3a, h4a, wrap_nat h (by omega), e]; first | done | rfl | (simp; done)) | assumption | rfl)) (by first | omega | (simp only; omega) | (dsimp only; omega) | (show _ < _; simp; omega))
  · have : m = 64 := by omega
    subst this; rfl
theorem ordS_step {f : Nat → Bool} {m j : Nat} (hf : f m = true) : ordS f j (m + 1) = if j = popN m then ordS f j m ++ [m] else ordS f j m := by
  rw [ordS_succ, hf]
  by_cases e : j = popN m
  · subst e; simp
  · have : ¬ popN m = j := fun h => e h.symm
    simp [e, this]
theorem ordS_stay {f : Nat → Bool} {m j : Nat} (hf : f m = false) : ordS f j (m + 1) = ordS f j m := by rw [ordS_succ, hf]; simp
def sizesL (f : Nat → Bool) : Mat := (List.range (dimN f)).map fun k => ofN (ordS f k 64)
theorem sizesL_length (f : Nat → Bool) : (sizesL f).length = dimN f := by simp [sizesL]
theorem sizesL_getD (f : Nat → Bool) {k : Nat} (h : k < dimN f) : (sizesL f).getD k [] = ofN (ordS f k 64) := by simp [sizesL, List.getD, h]
theorem c_impl_bySize0 (f : Nat → Bool) : AC Tryz.prog 179 [u64 (maskF f 64 : Nat)] (.tb 25 3 ((List.range (dimN f)).map fun j => iL (ofN (ordS f j 64)))) := by
  refine AC.go (rs := [.tmp 2]) T_ok mixed Tryz.func179 rfl rfl rfl (by kernel_rfl) fun hl => ?_
  have hm1 := maskF_lt f 64
  have hd := dimN_le f
  simp (maxSteps:=5000000) -dsimp only [↓gp, gq, reduceCtorEq, reduceEqDiff, reduceLT, reduceLeDiff, reduceAdd, reduceMul, reduceSub, Nat.reduceBEq, Int.reduceToNat, Int.reduceLE, Int.reduceLT, Int.reduceNeg, reduceMod, sid_ne1, sid_ne2, sid_inj, sid_mod, gT, TK.isInt, TK.agg, Array.toList]
  refine askK_of (c_impl_topSize f) ?_
  have hw : IntKind.i64.wrap ((dimN f : Int) - 1 + 1) = (dimN f : Int) := by rw [wrap_id (by omega) (by omega)]; omega
  simp (maxSteps:=5000000) -dsimp only [↓gp, gq, reduceCtorEq, reduceEqDiff, reduceLT, reduceLeDiff, reduceAdd, reduceMul, reduceSub, Nat.reduceBEq, Int.reduceToNat, Int.reduceLE, Int.reduceLT, Int.reduceNeg, reduceMod, sid_ne1, sid_ne2, sid_inj, sid_mod, gT, TK.isInt, TK.agg, Array.toList, hw]
  refine ⟨by omega, by omega, ?_⟩
  refine loop_nils (k := 9) (v := 1) (e := 25) (e2 := 3) (n := dimN f) (by simp (maxSteps:=5000000) -dsimp only [gr, reduceEqDiff, reduceLT, reduceAdd, reduceMod, Nat.reduceBEq, sid_mod, sid_ne1, sid_ne2, sid_inj, hw]) (fun j => by simp (maxSteps:=5000000) -dsimp only [gr, reduceEqDiff, reduceLT, reduceAdd, reduceMod, Nat.reduceBEq, sid_mod, sid_ne1, sid_ne2, sid_inj]) (fun (m : Nat) s => s.sl 0 = u64 (maskF f 64 : Nat) ∧ s.sl 3 = .own 9 1 ∧ s.sl 4 = int m ∧ (m ≤ 64 ∧ TabF s.rw 9 1 25 3 (dimN f) (fun j => 1 + (ordS f j m).length) (fun j => ofN (ordS f j m)))) (fun m => 64 - m) (0) (fun sX htX hslX hoX => (by refine ⟨?_, ?_, ?_, ⟨by omega, htX⟩⟩ <;> (first | (simp (maxSteps:=5000000) -dsimp only [gr, reduceEqDiff, reduceLT, reduceAdd, reduceMod, Nat.reduceBEq, sid_mod, sid_ne1, sid_ne2, sid_inj, hslX, hoX]; first | done | rfl | (simp; done)) | assumption | rfl))) ?_
  intro m sa ⟨h0a, h3a, h4a, hIa⟩
  obtain ⟨hm, ht⟩ := hIa
  simp (maxSteps:=5000000) -dsimp only [↓gp, gq, reduceCtorEq, reduceEqDiff, reduceLT, reduceLeDiff, reduceAdd, reduceMul, reduceSub, Nat.reduceBEq, Int.reduceToNat, Int.reduceLE, Int.reduceLT, Int.reduceNeg, reduceMod, sid_ne1, sid_ne2, sid_inj, sid_mod, gT, TK.isInt, TK.agg, Array.toList, h0a, h3a, h4a]
  refine ⟨fun h => askK_of (c_impl_hasSet (maskF f 64) m (by omega) (by omega)) ?_, fun h => ?_⟩
  · have h : m < 64 := by omega
    rw [mask_bit64 f h]
    simp (maxSteps:=5000000) -dsimp only [↓gp, gq, reduceCtorEq, reduceEqDiff, reduceLT, reduceLeDiff, reduceAdd, reduceMul, reduceSub, Nat.reduceBEq, Int.reduceToNat, Int.reduceLE, Int.reduceLT, Int.reduceNeg, reduceMod, sid_ne1, sid_ne2, sid_inj, sid_mod, gT, TK.isInt, TK.agg, Array.toList, h0a, h3a, h4a]
    refine ⟨fun hf => askK_of (c_impl_SizeOf _) ?_, fun hf => ?_⟩
    · have hk : popN m < dimN f := topP_ge 64 m h hf
      have hr := ht.row (popN m) hk
      have hol := ordS_len f (popN m) hm
      simp (maxSteps:=5000000) -dsimp only [↓gp, gq, reduceCtorEq, reduceEqDiff, reduceLT, reduceLeDiff, reduceAdd, reduceMul, reduceSub, Nat.reduceBEq, Int.reduceToNat, Int.reduceLE, Int.reduceLT, Int.reduceNeg, reduceMod, sid_ne1, sid_ne2, sid_inj, sid_mod, gT, TK.isInt, TK.agg, Array.toList, h0a, h3a, h4a, szOf_nat h, ht.top, cellsF_length, ld_cellsF, hr, ofN_length]
      refine ⟨hk, hk, by omega, hk, by omega, again_of (m + 1) ⟨(by (first | (simp (maxSteps:=5000000) -dsimp only [gr, reduceEqDiff, reduceLT, reduceAdd, reduceMod, Nat.reduceBEq, sid_mod, sid_ne1, sid_ne2, sid_inj, h0a, h3a, h4a, wrap_nat h (by omega)]; first | done | rfl | (simp; done)) | assumption | rfl)), (by (first | (simp (maxSteps:=5000000) -dsimp only [gr, reduceEqDiff, reduceLT, reduceAdd, reduceMod, Nat.reduceBEq, sid_mod, sid_ne1, sid_ne2, sid_inj, h0a, h3a, h4a, wrap_nat h (by omega)]; first | done | rfl | (simp; done)) | assumption | rfl)), (by (first | (simp (maxSteps:=5000000) -dsimp only [gr, reduceEqDiff, reduceLT, reduceAdd, reduceMod, Nat.reduceBEq, sid_mod, sid_ne1, sid_ne2, sid_inj, h0a, h3a, h4a, wrap_nat h (by omega)]; first | done | rfl | (simp; done)) | assumption | rfl)), ⟨by omega, ht.add hk (r := ofN (ordS f (popN m) m) ++ [(m : Int)]) (by simp (maxSteps:=5000000) -dsimp only [gr, reduceEqDiff, reduceLT, reduceAdd, reduceMod, Nat.reduceBEq, sid_mod, sid_ne1, sid_ne2, sid_inj, h0a, h3a, h4a]) (by simp (maxSteps:=5000000) -dsimp only [gr, reduceEqDiff, reduceLT, reduceAdd, reduceMod, Nat.reduceBEq, sid_mod, sid_ne1, sid_ne2, sid_inj, h0a, h3a, h4a]) (fun x hx => by simp (maxSteps:=5000000) -dsimp only [gr, reduceEqDiff, reduceLT, reduceAdd, reduceMod, Nat.reduceBEq, sid_mod, sid_ne1, sid_ne2, sid_inj, h0a, h3a, h4a, hx]) (fun j _ => ?_) (fun j _ => ?_)⟩⟩ (by first | omega | (simp only; omega) | (dsimp only; omega) | (show _ < _; simp; omega))⟩
      · rw [ordS_step hf]
        split
        · rename_i e; subst e; simp; omega
        · rfl
      · rw [ordS_step hf]
        split
        · rename_i e; subst e; rw [ofN_append]; rfl
        · rfl
    · have e : ∀ j, ordS f j (m + 1) = ordS f j m := fun j => ordS_stay hf
      refine again_of (m + 1) ⟨(by (first | (simp (maxSteps:=5000000) -dsimp only [gr, reduceEqDiff, reduceLT, reduceAdd, reduceMod, Nat.reduceBEq, sid_mod, sid_ne1, sid_ne2, sid_inj, h0a, h3a, h4a, wrap_nat h (by omega)]; first | done | rfl | (simp; done)) | assumption | rfl)), (by (first | (simp (maxSteps:=5000000) -dsimp only [gr, reduceEqDiff, reduceLT, reduceAdd, reduceMod, Nat.reduceBEq, sid_mod, sid_ne1, sid_ne2, sid_inj, h0a, h3a, h4a, wrap_nat h (by omega)]; first | done | rfl | (simp; done)) | assumption | rfl)), (by (first | (simp (maxSteps:=5000000) -dsimp only [gr, reduceEqDiff, reduceLT, reduceAdd, reduceMod, Nat.reduceBEq, sid_mod, sid_ne1, sid_ne2, sid_inj, h0a, h3a, h4a, wrap_nat h (by omega)]; first | done | rfl | (simp; done)) | assumption | rfl)), ⟨by omega, ?_⟩⟩ (by first | omega | (simp only; omega) | (dsimp only; omega) | (show _ < _; simp; omega))
      simp only [e]
      exact ht.same (by simp (maxSteps:=5000000) -dsimp only [gr, reduceEqDiff, reduceLT, reduceAdd, reduceMod, Nat.reduceBEq, sid_mod, sid_ne1, sid_ne2, sid_inj]) (fun x => by simp (maxSteps:=5000000) -dsimp only [gr, reduceEqDiff, reduceLT, reduceAdd, reduceMod, Nat.reduceBEq, sid_mod, sid_ne1, sid_ne2, sid_inj])
  · have : m = 64 := by omega
    subst this
    exact out2_tabF ht (by decide) (by omega)
theorem c_impl_bySize (f : Nat → Bool) : AC Tryz.prog 179 [u64 (maskF f 64 : Nat)] (.fr 25 1 (iLL (sizesL f))) := by
  have := (c_impl_bySize0 f).flat
  unfold sizesL iLL
  rw [List.map_map] at this ⊢
  exact this
theorem c_spec_l3Make (n : Int) (xs : List Int) (hx : okS xs) : AC Tryz.prog 153 [int n, ints xs] (.ag [.im (int n), .fr 3 1 (iL (ofN (extN (inF xs) true)))]) := by
  refine AC.go (rs := [.cell 4 27]) T_ok mixed Tryz.func153 rfl rfl rfl (by kernel_rfl) fun hl => ?_
  simp (maxSteps:=5000000) -dsimp only [↓gp, gq, reduceCtorEq, reduceEqDiff, reduceLT, reduceLeDiff, reduceAdd, reduceMul, reduceSub, Nat.reduceBEq, Int.reduceToNat, Int.reduceLE, Int.reduceLT, Int.reduceNeg, reduceMod, sid_ne1, sid_ne2, sid_inj, sid_mod, gT, TK.isInt, TK.agg, Array.toList]
  refine askK_of (c_spec_l2Extreme true xs hx) ?_
  simp (maxSteps:=5000000) -dsimp only [↓gp, gq, reduceCtorEq, reduceEqDiff, reduceLT, reduceLeDiff, reduceAdd, reduceMul, reduceSub, Nat.reduceBEq, Int.reduceToNat, Int.reduceLE, Int.reduceLT, Int.reduceNeg, reduceMod, sid_ne1, sid_ne2, sid_inj, sid_mod, gT, TK.isInt, TK.agg, Array.toList]
def kcx (P : Int → List Int → Prop) (rv : RV) : Prop := ∃ n xs, rv = .ag [.im (int n), .fr 3 1 (iL xs)] ∧ P n xs
def cxQ (n : Int) (xs : List Int) : Prop := 0 ≤ n ∧ n ≤ 7 ∧ xs.length ≤ 449
theorem cx_made {n : Nat} (hn : n ≤ 6) (f : Nat → Bool) (g : Bool) : kcx cxQ (.ag [.im (int n), .fr 3 1 (iL (ofN (extN f g)))]) :=
  ⟨_, _, rfl, by omega, by omega, by rw [ofN_length]; exact Nat.le_succ_of_le (extN_len f g)⟩
theorem iand_64 {a b : Int} (ha : 0 ≤ a ∧ a < 64) (hb : 0 ≤ b ∧ b < 64) : 0 ≤ iand .i64 a b ∧ iand .i64 a b < 64 := iand_lt ha hb
theorem okS_snoc {L : List Int} {x : Int} (h : okS L) (hx : 0 ≤ x ∧ x < 64) : okS (L ++ [x]) := fun y hy => by
  rw [List.mem_append, List.mem_singleton] at hy
  exact hy.elim (h y) (fun e => e ▸ hx)
theorem bel_64 {n : Nat} (hn : n ≤ 6) {x : Int} (h : belQ ((2 ^ n : Nat) : Int) x) : 0 ≤ x ∧ x < 64 := by
  have h64 := two_pow_le hn
  have hp : 0 < 2 ^ n := Nat.pow_pos (by omega)
  obtain ⟨m, rfl, hm⟩ := bel_nat hp h
  omega
theorem c_spec_l3Size (bs : List Int) (hbs : bs.length ≤ 9223372036854775806) (n : Nat) (hn1 : 1 ≤ n) (hn : n ≤ 6) : ACur Tryz.prog 204 TC bs ⟨0, .dead⟩ [int n] (kcx cxQ) := by
  intro i h
  refine AG.go (rs := [.cell 4 27]) T_ok mixed Tryz.func204 rfl rfl rfl (by kernel_rfl) fun hl _ s hs hR => ?_
  have e0 : s.rw 1000000 = ⟨1, .box TC [.sl false 1 (kL .u8 bs), int i, int h]⟩ := by rw [hR]; rfl
  have e1 : s.rw 1000500 = ⟨0, .dead⟩ := by rw [hR]; rfl
  have elo : ∀ k, k < 1000000 → s.rw k = ⟨0, .dead⟩ := fun k hk => by rw [hR]; exact curR_lo hk
  simp (maxSteps:=5000000) -dsimp only [↓gp, gq, reduceCtorEq, reduceEqDiff, reduceLT, reduceLeDiff, reduceAdd, reduceMul, reduceSub, Nat.reduceBEq, Int.reduceToNat, Int.reduceLE, Int.reduceLT, Int.reduceNeg, reduceMod, sid_ne1, sid_ne2, sid_inj, sid_mod, gT, TK.isInt, TK.agg, Array.toList, hs, e0, elo]
  refine askCur_of (c_spec_l1PickInt bs hbs [0, 1, 2, 3, 4, 4, 5, 6] (by decide) (by decide)) (.some (j := 11) (by simp (maxSteps:=5000000) -dsimp only [gr, reduceEqDiff, reduceLT, reduceAdd, reduceMod, Nat.reduceBEq, sid_mod, sid_ne1, sid_ne2, sid_inj, elo] <;> rfl) (plain_iL _)) (by simp (maxSteps:=5000000) -dsimp only [gr, reduceEqDiff, reduceLT, reduceAdd, reduceMod, Nat.reduceBEq, sid_mod, sid_ne1, sid_ne2, sid_inj, e0] <;> rfl) (.one (gv_cur (by simp (maxSteps:=5000000) -dsimp only [gr, reduceEqDiff, reduceLT, reduceAdd, reduceMod, Nat.reduceBEq, sid_mod, sid_ne1, sid_ne2, sid_inj, e0] <;> rfl)) (.one (gv_list (by simp (maxSteps:=5000000) -dsimp only [gr, reduceEqDiff, reduceLT, reduceAdd, reduceMod, Nat.reduceBEq, sid_mod, sid_ne1, sid_ne2, sid_inj, elo])) .nil)) rfl (fun j hj => by cases hj; exact ⟨rfl, rfl⟩) fun rv i1 g1 ⟨cnt, hrv, hc⟩ => ?_
  subst hrv
  simp (maxSteps:=5000000) -dsimp only [↓gp, gq, reduceCtorEq, reduceEqDiff, reduceLT, reduceLeDiff, reduceAdd, reduceMul, reduceSub, Nat.reduceBEq, Int.reduceToNat, Int.reduceLE, Int.reduceLT, Int.reduceNeg, reduceMod, sid_ne1, sid_ne2, sid_inj, sid_mod, gT, TK.isInt, TK.agg, Array.toList, hs, e0, elo]
  have hcn : 0 ≤ cnt ∧ cnt ≤ 6 := by
    have hc : cnt ∈ [0, 1, 2, 3, 4, 4, 5, 6] := hc
    simp at hc; omega
  have h64 := two_pow_le hn
  have hsh : ishl .i64 1 (n : Int) = ((2 ^ n : Nat) : Int) := ishl_small (by omega)
  have hun : IntKind.u64.wrap (n : Int) = (n : Int) := uwrap_id (by omega)
  refine loop_of (fun (za : Nat × Nat × Nat × Int × List Int) s => match za with | (k, v, j, g, L) => s.sl 0 = .ref 1000000 1 0 ∧ s.rw 1000000 = ⟨1, .box TC [.sl false 1 (kL .u8 bs), int j, int g]⟩ ∧ s.rw 1000500 = ⟨0, .dead⟩ ∧ s.sl 1 = int n ∧ s.sl 4 = .ref 4 1 0 ∧ s.rw 4 = ⟨1, .box 27 [int 0, .v (.slice none 0 0)]⟩ ∧ s.sl 5 = .own 9 v ∧ s.rw 9 = ⟨v, .sli 3 1 false (iL L)⟩ ∧ s.sl 6 = int cnt ∧ s.sl 7 = int k ∧ (k ≤ 6 ∧ L.length = k ∧ okS L)) (fun (k, v, j, g, L) => 6 - k) ((0, 1, i1, g1, [])) (by refine ⟨?_, ?_, ?_, ?_, ?_, ?_, ?_, ?_, ?_, ?_, ⟨by decide, rfl, fun x hx => absurd hx (by simp)⟩⟩ <;> (first | (simp (maxSteps:=5000000) -dsimp only [gr, reduceEqDiff, reduceLT, reduceAdd, reduceMod, Nat.reduceBEq, sid_mod, sid_ne1, sid_ne2, sid_inj, hs, e0, e1, elo]; first | done | rfl | (simp; done)) | assumption | rfl)) ?_
  intro (k, v, j, g, L) sa ⟨h0a, r1000000a, r1000500a, h1a, h4a, r4a, h5a, r9a, h6a, h7a, hIa⟩
  obtain ⟨hk, hL, hok⟩ := hIa
  simp (maxSteps:=5000000) -dsimp only [↓gp, gq, reduceCtorEq, reduceEqDiff, reduceLT, reduceLeDiff, reduceAdd, reduceMul, reduceSub, Nat.reduceBEq, Int.reduceToNat, Int.reduceLE, Int.reduceLT, Int.reduceNeg, reduceMod, sid_ne1, sid_ne2, sid_inj, sid_mod, gT, TK.isInt, TK.agg, Array.toList, h0a, r1000000a, r1000500a, h1a, h4a, r4a, h5a, r9a, h6a, h7a, hsh, hun]
  refine ⟨fun hlt => ?_, fun hlt => ?_⟩
  · refine askCur_of (c_spec_l1Below bs hbs ((2 ^ n : Nat) : Int) (by omega)) .none (by simp (maxSteps:=5000000) -dsimp only [gr, reduceEqDiff, reduceLT, reduceAdd, reduceMod, Nat.reduceBEq, sid_mod, sid_ne1, sid_ne2, sid_inj, h0a, r1000000a, r1000500a, h1a, h4a, r4a, h5a, r9a, h6a, h7a] <;> rfl) (GvL.one (gv_cur (by simp (maxSteps:=5000000) -dsimp only [gr, reduceEqDiff, reduceLT, reduceAdd, reduceMod, Nat.reduceBEq, sid_mod, sid_ne1, sid_ne2, sid_inj, h0a, r1000000a, r1000500a, h1a, h4a, r4a, h5a, r9a, h6a, h7a] <;> rfl)) (by repeat (first | exact GvL.nil | refine GvL.one (GvA.v _) ?_ | refine GvL.one (GvA.sl _ _ _) ?_))) rfl (fun _ h => by cases h) fun rv i2 g2 ⟨x, hrv, hx⟩ => ?_
    subst hrv
    have hx6 := bel_64 hn hx
    simp (maxSteps:=5000000) -dsimp only [↓gp, gq, reduceCtorEq, reduceEqDiff, reduceLT, reduceLeDiff, reduceAdd, reduceMul, reduceSub, Nat.reduceBEq, Int.reduceToNat, Int.reduceLE, Int.reduceLT, Int.reduceNeg, reduceMod, sid_ne1, sid_ne2, sid_inj, sid_mod, gT, TK.isInt, TK.agg, Array.toList, h0a, r1000000a, r1000500a, h1a, h4a, r4a, h5a, r9a, h6a, h7a, hsh, hun]
    refine askCur_of (c_spec_l1Once bs hbs 2 (by decide)) .none (by simp (maxSteps:=5000000) -dsimp only [gr, reduceEqDiff, reduceLT, reduceAdd, reduceMod, Nat.reduceBEq, sid_mod, sid_ne1, sid_ne2, sid_inj, h0a, r1000000a, r1000500a, h1a, h4a, r4a, h5a, r9a, h6a, h7a] <;> rfl) (GvL.one (gv_cur (by simp (maxSteps:=5000000) -dsimp only [gr, reduceEqDiff, reduceLT, reduceAdd, reduceMod, Nat.reduceBEq, sid_mod, sid_ne1, sid_ne2, sid_inj, h0a, r1000000a, r1000500a, h1a, h4a, r4a, h5a, r9a, h6a, h7a] <;> rfl)) (by repeat (first | exact GvL.nil | refine GvL.one (GvA.v _) ?_ | refine GvL.one (GvA.sl _ _ _) ?_))) rfl (fun _ h => by cases h) fun rv i3 g3 ⟨b, hrv⟩ => ?_
    subst hrv
    simp (maxSteps:=5000000) -dsimp only [↓gp, gq, reduceCtorEq, reduceEqDiff, reduceLT, reduceLeDiff, reduceAdd, reduceMul, reduceSub, Nat.reduceBEq, Int.reduceToNat, Int.reduceLE, Int.reduceLT, Int.reduceNeg, reduceMod, sid_ne1, sid_ne2, sid_inj, sid_mod, gT, TK.isInt, TK.agg, Array.toList, h0a, r1000000a, r1000500a, h1a, h4a, r4a, h5a, r9a, h6a, h7a, hsh, hun]
    refine ⟨fun hb => ?_, fun hb => ?_⟩
    · refine askCur_of (c_spec_l1Below bs hbs ((2 ^ n : Nat) : Int) (by omega)) .none (by simp (maxSteps:=5000000) -dsimp only [gr, reduceEqDiff, reduceLT, reduceAdd, reduceMod, Nat.reduceBEq, sid_mod, sid_ne1, sid_ne2, sid_inj, h0a, r1000000a, r1000500a, h1a, h4a, r4a, h5a, r9a, h6a, h7a] <;> rfl) (GvL.one (gv_cur (by simp (maxSteps:=5000000) -dsimp only [gr, reduceEqDiff, reduceLT, reduceAdd, reduceMod, Nat.reduceBEq, sid_mod, sid_ne1, sid_ne2, sid_inj, h0a, r1000000a, r1000500a, h1a, h4a, r4a, h5a, r9a, h6a, h7a] <;> rfl)) (by repeat (first | exact GvL.nil | refine GvL.one (GvA.v _) ?_ | refine GvL.one (GvA.sl _ _ _) ?_))) rfl (fun _ h => by cases h) fun rv i4 g4 ⟨y, hrv, hy⟩ => ?_
      subst hrv
      have hy6 := bel_64 hn hy
      simp (maxSteps:=5000000) -dsimp only [↓gp, gq, reduceCtorEq, reduceEqDiff, reduceLT, reduceLeDiff, reduceAdd, reduceMul, reduceSub, Nat.reduceBEq, Int.reduceToNat, Int.reduceLE, Int.reduceLT, Int.reduceNeg, reduceMod, sid_ne1, sid_ne2, sid_inj, sid_mod, gT, TK.isInt, TK.agg, Array.toList, h0a, r1000000a, r1000500a, h1a, h4a, r4a, h5a, r9a, h6a, h7a, hsh, hun]
      refine ⟨by omega, ?_⟩
      exact again_of ((k + 1, v + 1, i4, g4, L ++ [iand .i64 x y])) (by refine ⟨?_, ?_, ?_, ?_, ?_, ?_, ?_, ?_, ?_, ?_, ⟨by dsimp only; omega, by simp [hL], okS_snoc hok (iand_64 hx6 hy6)⟩⟩ <;> (first | (simp (maxSteps:=5000000) -dsimp only [gr, reduceEqDiff, reduceLT, reduceAdd, reduceMod, Nat.reduceBEq, sid_mod, sid_ne1, sid_ne2, sid_inj, h0a, r1000000a, r1000500a, h1a, h4a, r4a, h5a, r9a, h6a, h7a, wrap_nat (show k < 6 by omega) (by omega)]; first | done | rfl | (simp; done)) | assumption | rfl)) (by first | omega | (simp only; omega) | (dsimp only; omega) | (show _ < _; simp; omega))
    · refine ⟨by omega, ?_⟩
      exact again_of ((k + 1, v + 1, i3, g3, L ++ [x])) (by refine ⟨?_, ?_, ?_, ?_, ?_, ?_, ?_, ?_, ?_, ?_, ⟨by dsimp only; omega, by simp [hL], okS_snoc hok hx6⟩⟩ <;> (first | (simp (maxSteps:=5000000) -dsimp only [gr, reduceEqDiff, reduceLT, reduceAdd, reduceMod, Nat.reduceBEq, sid_mod, sid_ne1, sid_ne2, sid_inj, h0a, r1000000a, r1000500a, h1a, h4a, r4a, h5a, r9a, h6a, h7a, wrap_nat (show k < 6 by omega) (by omega)]; first | done | rfl | (simp; done)) | assumption | rfl)) (by first | omega | (simp only; omega) | (dsimp only; omega) | (show _ < _; simp; omega))
  · refine askK_of (c_spec_l3Make n L hok) ?_
    simp (maxSteps:=5000000) -dsimp only [↓gp, gq, reduceCtorEq, reduceEqDiff, reduceLT, reduceLeDiff, reduceAdd, reduceMul, reduceSub, Nat.reduceBEq, Int.reduceToNat, Int.reduceLE, Int.reduceLT, Int.reduceNeg, reduceMod, sid_ne1, sid_ne2, sid_inj, sid_mod, gT, TK.isInt, TK.agg, Array.toList, h0a, r1000000a, r1000500a, h1a, h4a, r4a, h5a, r9a, h6a, h7a]
    exact ⟨_, j, g, _, cx_made hn _ _, .one (.ag (.cons (.im _) (.cons (.fr (by simp (maxSteps:=5000000) -dsimp only [gr, reduceEqDiff, reduceLT, reduceAdd, reduceMod, Nat.reduceBEq, sid_mod, sid_ne1, sid_ne2, sid_inj, h0a, r1000000a, r1000500a, h1a, h4a, r4a, h5a, r9a, h6a, h7a] <;> rfl) (by decide)) .nil))), by simp, by simp (maxSteps:=5000000) -dsimp only [gr, reduceEqDiff, reduceLT, reduceAdd, reduceMod, Nat.reduceBEq, sid_mod, sid_ne1, sid_ne2, sid_inj, h0a, r1000000a, r1000500a, h1a, h4a, r4a, h5a, r9a, h6a, h7a] <;> rfl, by simp (maxSteps:=5000000) -dsimp only [gr, reduceEqDiff, reduceLT, reduceAdd, reduceMod, Nat.reduceBEq, sid_mod, sid_ne1, sid_ne2, sid_inj, h0a, r1000000a, r1000500a, h1a, h4a, r4a, h5a, r9a, h6a, h7a]⟩
def szQ (z m : Nat) : List Nat := (List.range m).filter fun s => popN s == z
theorem szQ_succ (z m : Nat) : szQ z (m + 1) = if popN m = z then szQ z m ++ [m] else szQ z m := by
  unfold szQ
  rw [List.range_succ, List.filter_append]
  by_cases h : popN m = z <;> simp [h]
theorem szQ_len (z m : Nat) : (szQ z m).length ≤ m := by
  unfold szQ
  exact Nat.le_trans (List.length_filter_le _ _) (by simp)
theorem szQ_pos : ∀ n, n < 7 → ∀ z, z < n + 1 → 0 < (szQ z (2 ^ n)).length := by decide +kernel
theorem szQ_ok (z m : Nat) (hm : m ≤ 64) : okS (ofN (szQ z m)) := fun x hx => by
  obtain ⟨s, hs, rfl⟩ := List.mem_map.1 hx
  have := List.mem_range.1 (List.mem_filter.1 hs).1
  omega
theorem c_spec_l3Pure (bs : List Int) (hbs : bs.length ≤ 9223372036854775806) (n : Nat) (hn1 : 1 ≤ n) (hn : n ≤ 6) : ACur Tryz.prog 203 TC bs ⟨0, .dead⟩ [int n] (kcx cxQ) := by
  intro i h
  refine AG.go (rs := [.cell 4 27]) T_ok mixed Tryz.func203 rfl rfl rfl (by kernel_rfl) fun hl _ s hs hR => ?_
  have e0 : s.rw 1000000 = ⟨1, .box TC [.sl false 1 (kL .u8 bs), int i, int h]⟩ := by rw [hR]; rfl
  have e1 : s.rw 1000500 = ⟨0, .dead⟩ := by rw [hR]; rfl
  have elo : ∀ k, k < 1000000 → s.rw k = ⟨0, .dead⟩ := fun k hk => by rw [hR]; exact curR_lo hk
  have h64 := two_pow_le hn
  have hsh : ishl .i64 1 (n : Int) = ((2 ^ n : Nat) : Int) := ishl_small (by omega)
  have hun : IntKind.u64.wrap (n : Int) = (n : Int) := uwrap_id (by omega)
  simp (maxSteps:=5000000) -dsimp only [↓gp, gq, reduceCtorEq, reduceEqDiff, reduceLT, reduceLeDiff, reduceAdd, reduceMul, reduceSub, Nat.reduceBEq, Int.reduceToNat, Int.reduceLE, Int.reduceLT, Int.reduceNeg, reduceMod, sid_ne1, sid_ne2, sid_inj, sid_mod, gT, TK.isInt, TK.agg, Array.toList, hs, e0, elo]
  refine askCur_of (c_spec_l1Below bs hbs n (by omega)) .none (by simp (maxSteps:=5000000) -dsimp only [gr, reduceEqDiff, reduceLT, reduceAdd, reduceMod, Nat.reduceBEq, sid_mod, sid_ne1, sid_ne2, sid_inj, e0, elo] <;> rfl) (GvL.one (gv_cur (by simp (maxSteps:=5000000) -dsimp only [gr, reduceEqDiff, reduceLT, reduceAdd, reduceMod, Nat.reduceBEq, sid_mod, sid_ne1, sid_ne2, sid_inj, e0, elo] <;> rfl)) (by repeat (first | exact GvL.nil | refine GvL.one (GvA.v _) ?_ | refine GvL.one (GvA.sl _ _ _) ?_))) rfl (fun _ h => by cases h) fun rv i1 g1 ⟨x, hrv, hx⟩ => ?_
  subst hrv
  obtain ⟨z0, rfl, hz0⟩ := bel_nat hn1 hx
  have hw1 : IntKind.i64.wrap (1 + (z0 : Int)) = ((z0 + 1 : Nat) : Int) := by rw [wrap_id (by omega) (by omega)]; omega
  generalize hz : z0 + 1 = z at *
  simp (maxSteps:=5000000) -dsimp only [↓gp, gq, reduceCtorEq, reduceEqDiff, reduceLT, reduceLeDiff, reduceAdd, reduceMul, reduceSub, Nat.reduceBEq, Int.reduceToNat, Int.reduceLE, Int.reduceLT, Int.reduceNeg, reduceMod, sid_ne1, sid_ne2, sid_inj, sid_mod, gT, TK.isInt, TK.agg, Array.toList, hs, e0, elo, hw1]
  refine loop_of (fun (za : Nat × Nat) s => match za with | (m, v) => s.sl 0 = .ref 1000000 1 0 ∧ s.rw 1000000 = ⟨1, .box TC [.sl false 1 (kL .u8 bs), int i1, int g1]⟩ ∧ s.rw 1000500 = ⟨0, .dead⟩ ∧ s.sl 1 = int n ∧ s.sl 4 = .ref 4 1 0 ∧ s.rw 4 = ⟨1, .box 27 [int 0, .v (.slice none 0 0)]⟩ ∧ s.sl 5 = int z ∧ s.sl 6 = .own 15 v ∧ s.rw 15 = ⟨v, .sli 3 1 false (iL (ofN (szQ z m)))⟩ ∧ s.rw 31 = ⟨0, .dead⟩ ∧ s.sl 7 = int m ∧ (m ≤ 2 ^ n)) (fun (m, v) => 2 ^ n - m) ((0, 1)) (by refine ⟨?_, ?_, ?_, ?_, ?_, ?_, ?_, ?_, ?_, ?_, ?_, Nat.zero_le _⟩ <;> (first | (simp (maxSteps:=5000000) -dsimp only [gr, reduceEqDiff, reduceLT, reduceAdd, reduceMod, Nat.reduceBEq, sid_mod, sid_ne1, sid_ne2, sid_inj, hs, e0, e1, elo]; first | done | rfl | (simp; done)) | assumption | rfl)) ?_
  intro (m, v) sa ⟨h0a, r1000000a, r1000500a, h1a, h4a, r4a, h5a, h6a, r15a, r31a, h7a, hIa⟩
  simp (maxSteps:=5000000) -dsimp only [↓gp, gq, reduceCtorEq, reduceEqDiff, reduceLT, reduceLeDiff, reduceAdd, reduceMul, reduceSub, Nat.reduceBEq, Int.reduceToNat, Int.reduceLE, Int.reduceLT, Int.reduceNeg, reduceMod, sid_ne1, sid_ne2, sid_inj, sid_mod, gT, TK.isInt, TK.agg, Array.toList, h0a, r1000000a, r1000500a, h1a, h4a, r4a, h5a, h6a, r15a, r31a, h7a, hsh, hun]
  have hzl := szQ_len z m
  refine ⟨fun hlt => askK_of (c_spec_l2Size m (by omega)) ?_, fun hlt => ?_⟩
  · simp (maxSteps:=5000000) -dsimp only [↓gp, gq, reduceCtorEq, reduceEqDiff, reduceLT, reduceLeDiff, reduceAdd, reduceMul, reduceSub, Nat.reduceBEq, Int.reduceToNat, Int.reduceLE, Int.reduceLT, Int.reduceNeg, reduceMod, sid_ne1, sid_ne2, sid_inj, sid_mod, gT, TK.isInt, TK.agg, Array.toList, h0a, r1000000a, r1000500a, h1a, h4a, r4a, h5a, h6a, r15a, r31a, h7a, hsh, hun]
    have hsu := szQ_succ z m
    refine ⟨fun he => ?_, fun he => ?_⟩
    · have he : popN m = z := by
        have : ((popN m : Nat) : Int) = z := by simpa using he
        omega
      rw [if_pos he] at hsu
      simp (maxSteps:=5000000) -dsimp only [↓gp, gq, reduceCtorEq, reduceEqDiff, reduceLT, reduceLeDiff, reduceAdd, reduceMul, reduceSub, Nat.reduceBEq, Int.reduceToNat, Int.reduceLE, Int.reduceLT, Int.reduceNeg, reduceMod, sid_ne1, sid_ne2, sid_inj, sid_mod, gT, TK.isInt, TK.agg, Array.toList, h0a, r1000000a, r1000500a, h1a, h4a, r4a, h5a, h6a, r15a, r31a, h7a, hsh, hun, ofN_length]
      refine ⟨by omega, ?_⟩
      exact again_of ((m + 1, v + 1)) (by refine ⟨?_, ?_, ?_, ?_, ?_, ?_, ?_, ?_, ?_, ?_, ?_, by dsimp only; omega⟩ <;> (first | (simp (maxSteps:=5000000) -dsimp only [gr, reduceEqDiff, reduceLT, reduceAdd, reduceMod, Nat.reduceBEq, sid_mod, sid_ne1, sid_ne2, sid_inj, h0a, r1000000a, r1000500a, h1a, h4a, r4a, h5a, h6a, r15a, r31a, h7a, hsu, ofN_append, ofN_one, wrap_nat hlt (by omega)]; first | done | rfl | (simp; done)) | assumption | rfl)) (by first | omega | (simp only; omega) | (dsimp only; omega) | (show _ < _; simp; omega))
    · have he : ¬ popN m = z := fun e => by rw [e] at he; simp at he
      rw [if_neg he] at hsu
      exact again_of ((m + 1, v)) (by refine ⟨?_, ?_, ?_, ?_, ?_, ?_, ?_, ?_, ?_, ?_, ?_, by dsimp only; omega⟩ <;> (first | (simp (maxSteps:=5000000) -dsimp only [gr, reduceEqDiff, reduceLT, reduceAdd, reduceMod, Nat.reduceBEq, sid_mod, sid_ne1, sid_ne2, sid_inj, h0a, r1000000a, r1000500a, h1a, h4a, r4a, h5a, h6a, r15a, r31a, h7a, hsu, wrap_nat hlt (by omega)]; first | done | rfl | (simp; done)) | assumption | rfl)) (by first | omega | (simp only; omega) | (dsimp only; omega) | (show _ < _; simp; omega))
  · have hm : m = 2 ^ n := by omega
    subst hm
    have hpos := szQ_pos n (by omega) z (by omega)
    have hAok := szQ_ok z (2 ^ n) h64
    generalize hA : szQ z (2 ^ n) = A at *
    have hAl : (ofN A).length = A.length := ofN_length A
    refine askCur_of (c_spec_l1Below bs hbs 7 (by decide)) .none (by simp (maxSteps:=5000000) -dsimp only [gr, reduceEqDiff, reduceLT, reduceAdd, reduceMod, Nat.reduceBEq, sid_mod, sid_ne1, sid_ne2, sid_inj, h0a, r1000000a, r1000500a, h1a, h4a, r4a, h5a, h6a, r15a, r31a, h7a] <;> rfl) (GvL.one (gv_cur (by simp (maxSteps:=5000000) -dsimp only [gr, reduceEqDiff, reduceLT, reduceAdd, reduceMod, Nat.reduceBEq, sid_mod, sid_ne1, sid_ne2, sid_inj, h0a, r1000000a, r1000500a, h1a, h4a, r4a, h5a, h6a, r15a, r31a, h7a] <;> rfl)) (by repeat (first | exact GvL.nil | refine GvL.one (GvA.v _) ?_ | refine GvL.one (GvA.sl _ _ _) ?_))) rfl (fun _ h => by cases h) fun rv i2 g2 ⟨x, hrv, hx⟩ => ?_
    subst hrv
    have hx7 : 0 ≤ x ∧ x < 7 := by obtain ⟨a, b⟩ := hx; omega
    have hw2 : IntKind.i64.wrap (1 + x) = 1 + x := wrap_id (by omega) (by omega)
    simp (maxSteps:=5000000) -dsimp only [↓gp, gq, reduceCtorEq, reduceEqDiff, reduceLT, reduceLeDiff, reduceAdd, reduceMul, reduceSub, Nat.reduceBEq, Int.reduceToNat, Int.reduceLE, Int.reduceLT, Int.reduceNeg, reduceMod, sid_ne1, sid_ne2, sid_inj, sid_mod, gT, TK.isInt, TK.agg, Array.toList, h0a, r1000000a, r1000500a, h1a, h4a, r4a, h5a, h6a, r15a, r31a, h7a, hw2]
    refine loop_of (fun (zb : Nat × Nat × Nat × Int × List Int) s => match zb with | (k, u, j, g, L) => s.sl 0 = .ref 1000000 1 0 ∧ s.rw 1000000 = ⟨1, .box TC [.sl false 1 (kL .u8 bs), int j, int g]⟩ ∧ s.rw 1000500 = ⟨0, .dead⟩ ∧ s.sl 1 = int n ∧ s.sl 4 = .ref 4 1 0 ∧ s.rw 4 = ⟨1, .box 27 [int 0, .v (.slice none 0 0)]⟩ ∧ s.sl 6 = .own 15 v ∧ s.rw 15 = ⟨v, .sli 3 1 false (iL (ofN A))⟩ ∧ s.sl 8 = .own 31 u ∧ s.rw 31 = ⟨u, .sli 3 1 false (iL L)⟩ ∧ s.sl 9 = int (1 + x) ∧ s.sl 10 = int k ∧ (k ≤ 7 ∧ L.length = k ∧ okS L)) (fun (k, u, j, g, L) => 7 - k) ((0, 1, i2, g2, [])) (by refine ⟨?_, ?_, ?_, ?_, ?_, ?_, ?_, ?_, ?_, ?_, ?_, ?_, ⟨by decide, rfl, fun x hx => absurd hx (by simp)⟩⟩ <;> (first | (simp (maxSteps:=5000000) -dsimp only [gr, reduceEqDiff, reduceLT, reduceAdd, reduceMod, Nat.reduceBEq, sid_mod, sid_ne1, sid_ne2, sid_inj, h0a, r1000000a, r1000500a, h1a, h4a, r4a, h5a, h6a, r15a, r31a, h7a]; first | done | rfl | (simp; done)) | assumption | rfl)) ?_
    intro (k, u, j, g, L) sb ⟨h0b, r1000000b, r1000500b, h1b, h4b, r4b, h6b, r15b, h8b, r31b, h9b, h10b, hIb⟩
    obtain ⟨hk, hL, hok⟩ := hIb
    simp (maxSteps:=5000000) -dsimp only [↓gp, gq, reduceCtorEq, reduceEqDiff, reduceLT, reduceLeDiff, reduceAdd, reduceMul, reduceSub, Nat.reduceBEq, Int.reduceToNat, Int.reduceLE, Int.reduceLT, Int.reduceNeg, reduceMod, sid_ne1, sid_ne2, sid_inj, sid_mod, gT, TK.isInt, TK.agg, Array.toList, h0b, r1000000b, r1000500b, h1b, h4b, r4b, h6b, r15b, h8b, r31b, h9b, h10b, hAl]
    refine ⟨fun hlt2 => ?_, fun hlt2 => ?_⟩
    · refine askCur_of (c_spec_l1Below bs hbs (A.length : Int) (by omega)) .none (by simp (maxSteps:=5000000) -dsimp only [gr, reduceEqDiff, reduceLT, reduceAdd, reduceMod, Nat.reduceBEq, sid_mod, sid_ne1, sid_ne2, sid_inj, h0b, r1000000b, r1000500b, h1b, h4b, r4b, h6b, r15b, h8b, r31b, h9b, h10b] <;> rfl) (GvL.one (gv_cur (by simp (maxSteps:=5000000) -dsimp only [gr, reduceEqDiff, reduceLT, reduceAdd, reduceMod, Nat.reduceBEq, sid_mod, sid_ne1, sid_ne2, sid_inj, h0b, r1000000b, r1000500b, h1b, h4b, r4b, h6b, r15b, h8b, r31b, h9b, h10b] <;> rfl)) (by repeat (first | exact GvL.nil | refine GvL.one (GvA.v _) ?_ | refine GvL.one (GvA.sl _ _ _) ?_))) rfl (fun _ h => by cases h) fun rv i3 g3 ⟨y, hrv, hy⟩ => ?_
      subst hrv
      obtain ⟨t, rfl, ht⟩ := bel_nat hpos hy
      have hgt := hAok _ (getD_mem 0 (show t < (ofN A).length by omega))
      simp (maxSteps:=5000000) -dsimp only [↓gp, gq, reduceCtorEq, reduceEqDiff, reduceLT, reduceLeDiff, reduceAdd, reduceMul, reduceSub, Nat.reduceBEq, Int.reduceToNat, Int.reduceLE, Int.reduceLT, Int.reduceNeg, reduceMod, sid_ne1, sid_ne2, sid_inj, sid_mod, gT, TK.isInt, TK.agg, Array.toList, h0b, r1000000b, r1000500b, h1b, h4b, r4b, h6b, r15b, h8b, r31b, h9b, h10b, hAl]
      refine ⟨by omega, by omega, by omega, ?_⟩
      exact again_of ((k + 1, u + 1, i3, g3, L ++ [(ofN A).getD t 0])) (by refine ⟨?_, ?_, ?_, ?_, ?_, ?_, ?_, ?_, ?_, ?_, ?_, ?_, ⟨by dsimp only; omega, by simp [hL], okS_snoc hok hgt⟩⟩ <;> (first | (simp (maxSteps:=5000000) -dsimp only [gr, reduceEqDiff, reduceLT, reduceAdd, reduceMod, Nat.reduceBEq, sid_mod, sid_ne1, sid_ne2, sid_inj, h0b, r1000000b, r1000500b, h1b, h4b, r4b, h6b, r15b, h8b, r31b, h9b, h10b, wrap_nat (show k < 7 by omega) (by omega)]; first | done | rfl | (simp; done)) | assumption | rfl)) (by first | omega | (simp only; omega) | (dsimp only; omega) | (show _ < _; simp; omega))
    · refine askK_of (c_spec_l3Make n L hok) ?_
      simp (maxSteps:=5000000) -dsimp only [↓gp, gq, reduceCtorEq, reduceEqDiff, reduceLT, reduceLeDiff, reduceAdd, reduceMul, reduceSub, Nat.reduceBEq, Int.reduceToNat, Int.reduceLE, Int.reduceLT, Int.reduceNeg, reduceMod, sid_ne1, sid_ne2, sid_inj, sid_mod, gT, TK.isInt, TK.agg, Array.toList, h0b, r1000000b, r1000500b, h1b, h4b, r4b, h6b, r15b, h8b, r31b, h9b, h10b]
      exact ⟨_, j, g, _, cx_made hn _ _, .one (.ag (.cons (.im _) (.cons (.fr (by simp (maxSteps:=5000000) -dsimp only [gr, reduceEqDiff, reduceLT, reduceAdd, reduceMod, Nat.reduceBEq, sid_mod, sid_ne1, sid_ne2, sid_inj, h0b, r1000000b, r1000500b, h1b, h4b, r4b, h6b, r15b, h8b, r31b, h9b, h10b] <;> rfl) (by decide)) .nil))), by simp, by simp (maxSteps:=5000000) -dsimp only [gr, reduceEqDiff, reduceLT, reduceAdd, reduceMod, Nat.reduceBEq, sid_mod, sid_ne1, sid_ne2, sid_inj, h0b, r1000000b, r1000500b, h1b, h4b, r4b, h6b, r15b, h8b, r31b, h9b, h10b] <;> rfl, by simp (maxSteps:=5000000) -dsimp only [gr, reduceEqDiff, reduceLT, reduceAdd, reduceMod, Nat.reduceBEq, sid_mod, sid_ne1, sid_ne2, sid_inj, h0b, r1000000b, r1000500b, h1b, h4b, r4b, h6b, r15b, h8b, r31b, h9b, h10b]⟩
end Go.Proofs.YtpnknaaehcljoaaGreat
