/- DERIVED by an AI agent. -/
import Derived.Test.YtfjjopfeipggiaaQ2
namespace Go.Proofs.Ytfjjopfeipggiaa
open Go.Abs
set_option linter.unusedSimpArgs false
set_option linter.unusedVariables false

theorem befS_irrefl (a : Int) : befS a a = false := by unfold befS; simp
theorem befS_trans {a b c : Int} (h1 : befS a b = true) (h2 : befS b c = true) : befS a c = true := by
  unfold befS at *
  simp only [Bool.and_eq_true, decide_eq_true_eq] at *
  obtain ⟨ha, hb, h1⟩ := h1
  obtain ⟨_, hc, h2⟩ := h2
  refine ⟨ha, hc, ?_⟩
  split at h1 <;> split at h2 <;> simp only [decide_eq_true_eq] at h1 h2
  · rw [if_pos (by omega)]; exact decide_eq_true (by omega)
  · rw [if_neg (by omega)]; exact decide_eq_true (by omega)
  · rw [if_neg (by omega)]; exact decide_eq_true (by omega)
  · rw [if_neg (by omega)]; exact decide_eq_true (by omega)
theorem cx_sorted {n : Int} {xs : List Int} (h : cxP n xs) : ∀ (j i : Nat), i < j → j < xs.length → befS (xs.getD i 0) (xs.getD j 0) = true := by
  intro j
  induction j with
  | zero => intro i hi; omega
  | succ j ih =>
    intro i hi hj
    have h1 := (h.2.2 (j + 1) hj).2.1 (by omega)
    rw [Nat.add_sub_cancel] at h1
    rcases Nat.lt_succ_iff_lt_or_eq.1 hi with hi | rfl
    · exact befS_trans (ih i hi (by omega)) h1
    · exact h1
theorem cx_nodup {n : Int} {xs : List Int} (h : cxP n xs) : xs.Nodup := by
  refine List.pairwise_iff_getElem.2 fun i j hi hj hij e => ?_
  have := cx_sorted h j i hij hj
  rw [getD_at 0 hi, getD_at 0 hj, e, befS_irrefl] at this
  cases this
theorem nodup_take {xs : List Int} (h : ∀ k, k < xs.length → xs.getD k 0 ∉ xs.take k) : xs.Nodup := by
  refine List.pairwise_iff_getElem.2 fun i j hi hj hij e => ?_
  refine h j hj ?_
  rw [getD_at 0 hj, ← e]
  exact List.mem_take_iff_getElem.2 ⟨i, by omega, rfl⟩
open Classical in
/-- The same sets in some order. -/
noncomputable def isOrd (n : Int) (xs list : List Int) : Bool := decide (cxP n xs ∧ list.Perm xs)
open Classical in
theorem isOrd_no {n : Int} {xs list : List Int} (h : ¬ (cxP n xs ∧ list.Perm xs)) : isOrd n xs list = false := decide_eq_false h
open Classical in
theorem isOrd_yes {n : Int} {xs list : List Int} (h : cxP n xs ∧ list.Perm xs) : isOrd n xs list = true := decide_eq_true h
open Classical in
theorem isOrd_iff {n : Int} {xs list : List Int} : isOrd n xs list = true ↔ (cxP n xs ∧ list.Perm xs) := decide_eq_true_iff
theorem c_spec_IsOrder (n : Int) (xs list : List Int) : AC Try.prog 68 [.ag [int n, ints xs], ints list] (.im (bool (isOrd n xs list))) := by
  refine AC.go (rs := [.tmp 4]) T_ok mixed Try.func68 rfl rfl rfl (by kernel_rfl) fun hl => ?_
  simp only [lens_cons, lens_nil, and_true, lens2_ag2, lens1_v, lens1_iL, lens2_iL, true_and] at hl
  simp (maxSteps := 5000000) -dsimp only [↓gp0, ↓gp1, ↓gp2, ↓gp3, ↓gp4, ↓gp5, ↓gp6, ↓gp7, ↓gp8, gq0, gq1, gq2, gq3, gq4, gq5, gq6, gq7, gq8, gq9, gq10, gq11, gq12, gq13, gq14, gq15, gq16, gq17, gq18, gq19, gq20, gq21, gq22, gq23, gq24, gq25, gq26, reduceCtorEq, Nat.reduceEqDiff, Nat.reduceLT, Nat.reduceLeDiff, Nat.reduceAdd, Nat.reduceMul, Nat.reduceSub, Nat.reduceBEq, Int.reduceToNat, Int.reduceLE, Int.reduceLT, Int.reduceNeg, Nat.reduceMod, gT, TK.isInt, TK.agg, Array.toList]
  refine loop_of (fun (k : Nat) s => s.sl 1 = ints list ∧ s.sl 2 = .ref 2 1 0 ∧ s.rw 2 = ⟨1, .box 66 [int n, ints xs]⟩ ∧ s.sl 5 = int k ∧ (k ≤ list.length ∧ ∀ i, i < k → list.getD i 0 ∈ xs ∧ list.getD i 0 ∉ list.take i)) (fun k => list.length - k) (0) ⟨(by first | (simp (maxSteps := 5000000) -dsimp only [gr0, gr1, gr2, gr3, Nat.reduceEqDiff, Nat.reduceLT]; done) | (simp (maxSteps := 5000000) -dsimp only [gr0, gr1, gr2, gr3, Nat.reduceEqDiff, Nat.reduceLT]; rfl) | (simp (maxSteps := 5000000) -dsimp only [gr0, gr1, gr2, gr3, Nat.reduceEqDiff, Nat.reduceLT]; simp; done) | assumption | rfl), (by first | (simp (maxSteps := 5000000) -dsimp only [gr0, gr1, gr2, gr3, Nat.reduceEqDiff, Nat.reduceLT]; done) | (simp (maxSteps := 5000000) -dsimp only [gr0, gr1, gr2, gr3, Nat.reduceEqDiff, Nat.reduceLT]; rfl) | (simp (maxSteps := 5000000) -dsimp only [gr0, gr1, gr2, gr3, Nat.reduceEqDiff, Nat.reduceLT]; simp; done) | assumption | rfl), (by first | (simp (maxSteps := 5000000) -dsimp only [gr0, gr1, gr2, gr3, Nat.reduceEqDiff, Nat.reduceLT]; done) | (simp (maxSteps := 5000000) -dsimp only [gr0, gr1, gr2, gr3, Nat.reduceEqDiff, Nat.reduceLT]; rfl) | (simp (maxSteps := 5000000) -dsimp only [gr0, gr1, gr2, gr3, Nat.reduceEqDiff, Nat.reduceLT]; simp; done) | assumption | rfl), (by first | (simp (maxSteps := 5000000) -dsimp only [gr0, gr1, gr2, gr3, Nat.reduceEqDiff, Nat.reduceLT]; done) | (simp (maxSteps := 5000000) -dsimp only [gr0, gr1, gr2, gr3, Nat.reduceEqDiff, Nat.reduceLT]; rfl) | (simp (maxSteps := 5000000) -dsimp only [gr0, gr1, gr2, gr3, Nat.reduceEqDiff, Nat.reduceLT]; simp; done) | assumption | rfl), by simp⟩ ?_
  intro k sa ⟨h1a, h2a, r2a, h5a, hIa⟩
  obtain ⟨hk, hall⟩ := hIa
  simp (maxSteps := 5000000) -dsimp only [↓gp0, ↓gp1, ↓gp2, ↓gp3, ↓gp4, ↓gp5, ↓gp6, ↓gp7, ↓gp8, gq0, gq1, gq2, gq3, gq4, gq5, gq6, gq7, gq8, gq9, gq10, gq11, gq12, gq13, gq14, gq15, gq16, gq17, gq18, gq19, gq20, gq21, gq22, gq23, gq24, gq25, gq26, reduceCtorEq, Nat.reduceEqDiff, Nat.reduceLT, Nat.reduceLeDiff, Nat.reduceAdd, Nat.reduceMul, Nat.reduceSub, Nat.reduceBEq, Int.reduceToNat, Int.reduceLE, Int.reduceLT, Int.reduceNeg, Nat.reduceMod, gT, TK.isInt, TK.agg, Array.toList, h1a, h2a, r2a, h5a]
  refine ⟨fun h => ⟨by kernel_rfl, h, h, askK_of (c_spec_l2Has _ _) ?_⟩, fun h => askK_of (c_spec_IsComplex n xs) ?_⟩
  · simp (maxSteps := 5000000) -dsimp only [↓gp0, ↓gp1, ↓gp2, ↓gp3, ↓gp4, ↓gp5, ↓gp6, ↓gp7, ↓gp8, gq0, gq1, gq2, gq3, gq4, gq5, gq6, gq7, gq8, gq9, gq10, gq11, gq12, gq13, gq14, gq15, gq16, gq17, gq18, gq19, gq20, gq21, gq22, gq23, gq24, gq25, gq26, reduceCtorEq, Nat.reduceEqDiff, Nat.reduceLT, Nat.reduceLeDiff, Nat.reduceAdd, Nat.reduceMul, Nat.reduceSub, Nat.reduceBEq, Int.reduceToNat, Int.reduceLE, Int.reduceLT, Int.reduceNeg, Nat.reduceMod, gT, TK.isInt, TK.agg, Array.toList, h1a, h2a, r2a, h5a]
    have hp : ∀ p : list.Perm xs, list.getD k 0 ∈ xs := fun p => p.mem_iff.1 (getD_mem 0 h)
    refine ⟨fun hm => ⟨by omega, h, h, askK_of (c_spec_l2Has _ _) ?_⟩, fun hm => ?_⟩
    · simp (maxSteps := 5000000) -dsimp only [↓gp0, ↓gp1, ↓gp2, ↓gp3, ↓gp4, ↓gp5, ↓gp6, ↓gp7, ↓gp8, gq0, gq1, gq2, gq3, gq4, gq5, gq6, gq7, gq8, gq9, gq10, gq11, gq12, gq13, gq14, gq15, gq16, gq17, gq18, gq19, gq20, gq21, gq22, gq23, gq24, gq25, gq26, reduceCtorEq, Nat.reduceEqDiff, Nat.reduceLT, Nat.reduceLeDiff, Nat.reduceAdd, Nat.reduceMul, Nat.reduceSub, Nat.reduceBEq, Int.reduceToNat, Int.reduceLE, Int.reduceLT, Int.reduceNeg, Nat.reduceMod, gT, TK.isInt, TK.agg, Array.toList, h1a, h2a, r2a, h5a]
      refine ⟨fun hm2 => isOrd_no fun hg => ?_, fun hm2 => again_of (k + 1) ⟨(by first | (simp (maxSteps := 5000000) -dsimp only [gr0, gr1, gr2, gr3, Nat.reduceEqDiff, Nat.reduceLT, h1a, h2a, r2a, h5a, wrap_nat h hl.2]; done) | (simp (maxSteps := 5000000) -dsimp only [gr0, gr1, gr2, gr3, Nat.reduceEqDiff, Nat.reduceLT, h1a, h2a, r2a, h5a, wrap_nat h hl.2]; rfl) | (simp (maxSteps := 5000000) -dsimp only [gr0, gr1, gr2, gr3, Nat.reduceEqDiff, Nat.reduceLT, h1a, h2a, r2a, h5a, wrap_nat h hl.2]; simp; done) | assumption | rfl), (by first | (simp (maxSteps := 5000000) -dsimp only [gr0, gr1, gr2, gr3, Nat.reduceEqDiff, Nat.reduceLT, h1a, h2a, r2a, h5a, wrap_nat h hl.2]; done) | (simp (maxSteps := 5000000) -dsimp only [gr0, gr1, gr2, gr3, Nat.reduceEqDiff, Nat.reduceLT, h1a, h2a, r2a, h5a, wrap_nat h hl.2]; rfl) | (simp (maxSteps := 5000000) -dsimp only [gr0, gr1, gr2, gr3, Nat.reduceEqDiff, Nat.reduceLT, h1a, h2a, r2a, h5a, wrap_nat h hl.2]; simp; done) | assumption | rfl), (by first | (simp (maxSteps := 5000000) -dsimp only [gr0, gr1, gr2, gr3, Nat.reduceEqDiff, Nat.reduceLT, h1a, h2a, r2a, h5a, wrap_nat h hl.2]; done) | (simp (maxSteps := 5000000) -dsimp only [gr0, gr1, gr2, gr3, Nat.reduceEqDiff, Nat.reduceLT, h1a, h2a, r2a, h5a, wrap_nat h hl.2]; rfl) | (simp (maxSteps := 5000000) -dsimp only [gr0, gr1, gr2, gr3, Nat.reduceEqDiff, Nat.reduceLT, h1a, h2a, r2a, h5a, wrap_nat h hl.2]; simp; done) | assumption | rfl), (by first | (simp (maxSteps := 5000000) -dsimp only [gr0, gr1, gr2, gr3, Nat.reduceEqDiff, Nat.reduceLT, h1a, h2a, r2a, h5a, wrap_nat h hl.2]; done) | (simp (maxSteps := 5000000) -dsimp only [gr0, gr1, gr2, gr3, Nat.reduceEqDiff, Nat.reduceLT, h1a, h2a, r2a, h5a, wrap_nat h hl.2]; rfl) | (simp (maxSteps := 5000000) -dsimp only [gr0, gr1, gr2, gr3, Nat.reduceEqDiff, Nat.reduceLT, h1a, h2a, r2a, h5a, wrap_nat h hl.2]; simp; done) | assumption | rfl), ⟨by omega, fun j hj => ?_⟩⟩ (by first | omega | (simp only; omega))⟩
      · have hn : list.Nodup := hg.2.nodup_iff.2 (cx_nodup hg.1)
        have h1 : list.getD k 0 ∈ list.take k := by simpa using hm2
        obtain ⟨i, hi, e⟩ := List.mem_take_iff_getElem.1 h1
        rw [getD_at 0 h] at e
        exact List.pairwise_iff_getElem.1 hn i k (by omega) h (by omega) e
      · rcases Nat.lt_succ_iff_lt_or_eq.1 hj with hj | rfl
        · exact hall j hj
        · exact ⟨by simpa using hm, by simpa using hm2⟩
    · exact isOrd_no fun hg => of_decide_eq_false (by rwa [Bool.not_eq_true'] at hm) (hp hg.2)
  · simp (maxSteps := 5000000) -dsimp only [↓gp0, ↓gp1, ↓gp2, ↓gp3, ↓gp4, ↓gp5, ↓gp6, ↓gp7, ↓gp8, gq0, gq1, gq2, gq3, gq4, gq5, gq6, gq7, gq8, gq9, gq10, gq11, gq12, gq13, gq14, gq15, gq16, gq17, gq18, gq19, gq20, gq21, gq22, gq23, gq24, gq25, gq26, reduceCtorEq, Nat.reduceEqDiff, Nat.reduceLT, Nat.reduceLeDiff, Nat.reduceAdd, Nat.reduceMul, Nat.reduceSub, Nat.reduceBEq, Int.reduceToNat, Int.reduceLE, Int.reduceLT, Int.reduceNeg, Nat.reduceMod, gT, TK.isInt, TK.agg, Array.toList, h1a, h2a, r2a, h5a]
    have key : cxP n xs → list.length = xs.length → list.Perm xs := fun hc he =>
      perm_of_sub (nodup_take fun j hj => (hall j (by omega)).2) (fun x hx => by
        obtain ⟨i, hi, rfl⟩ := mem_getD 0 hx
        exact (hall i (by omega)).1) (by omega)
    refine ⟨fun hc => ?_, fun hc => isOrd_no fun hg => by rw [isCx_iff.2 hg.1] at hc; cases hc⟩
    have hc := isCx_iff.1 hc
    by_cases he : list.length = xs.length
    · rw [isOrd_yes ⟨hc, key hc he⟩]
      simp [he]
    · rw [isOrd_no fun hg => he hg.2.length_eq]
      symm; simp; omega
theorem c_impl_isRearranged (xs list : List Int) : AC Try.prog 70 [ints xs, ints list] (.im (bool (decide (xs.length = list.length ∧ ∀ x ∈ xs, x ∈ list)))) := by
  refine AC.go (rs := [.tmp 4]) T_ok mixed Try.func70 rfl rfl rfl (by kernel_rfl) fun hl => ?_
  simp only [lens_cons, lens_nil, and_true, lens2_ag2, lens1_v, lens1_iL, lens2_iL, true_and] at hl
  simp (maxSteps := 5000000) -dsimp only [↓gp0, ↓gp1, ↓gp2, ↓gp3, ↓gp4, ↓gp5, ↓gp6, ↓gp7, ↓gp8, gq0, gq1, gq2, gq3, gq4, gq5, gq6, gq7, gq8, gq9, gq10, gq11, gq12, gq13, gq14, gq15, gq16, gq17, gq18, gq19, gq20, gq21, gq22, gq23, gq24, gq25, gq26, reduceCtorEq, Nat.reduceEqDiff, Nat.reduceLT, Nat.reduceLeDiff, Nat.reduceAdd, Nat.reduceMul, Nat.reduceSub, Nat.reduceBEq, Int.reduceToNat, Int.reduceLE, Int.reduceLT, Int.reduceNeg, Nat.reduceMod, gT, TK.isInt, TK.agg, Array.toList]
  refine ⟨fun h => fun hg => by simp [hg.1] at h, fun h => ?_⟩
  have hle : xs.length = list.length := by
    have := bne_eq_false_iff_eq.1 h
    omega
  refine loop_of (fun (k : Nat) s => s.sl 0 = ints xs ∧ s.sl 1 = ints list ∧ s.sl 12 = ints xs ∧ s.sl 13 = int xs.length ∧ s.sl 14 = int k ∧ (k ≤ xs.length ∧ ∀ i, i < k → xs.getD i 0 ∈ list)) (fun k => xs.length - k) (0) ⟨(by first | (simp (maxSteps := 5000000) -dsimp only [gr0, gr1, gr2, gr3, Nat.reduceEqDiff, Nat.reduceLT]; done) | (simp (maxSteps := 5000000) -dsimp only [gr0, gr1, gr2, gr3, Nat.reduceEqDiff, Nat.reduceLT]; rfl) | (simp (maxSteps := 5000000) -dsimp only [gr0, gr1, gr2, gr3, Nat.reduceEqDiff, Nat.reduceLT]; simp; done) | assumption | rfl), (by first | (simp (maxSteps := 5000000) -dsimp only [gr0, gr1, gr2, gr3, Nat.reduceEqDiff, Nat.reduceLT]; done) | (simp (maxSteps := 5000000) -dsimp only [gr0, gr1, gr2, gr3, Nat.reduceEqDiff, Nat.reduceLT]; rfl) | (simp (maxSteps := 5000000) -dsimp only [gr0, gr1, gr2, gr3, Nat.reduceEqDiff, Nat.reduceLT]; simp; done) | assumption | rfl), (by first | (simp (maxSteps := 5000000) -dsimp only [gr0, gr1, gr2, gr3, Nat.reduceEqDiff, Nat.reduceLT]; done) | (simp (maxSteps := 5000000) -dsimp only [gr0, gr1, gr2, gr3, Nat.reduceEqDiff, Nat.reduceLT]; rfl) | (simp (maxSteps := 5000000) -dsimp only [gr0, gr1, gr2, gr3, Nat.reduceEqDiff, Nat.reduceLT]; simp; done) | assumption | rfl), (by first | (simp (maxSteps := 5000000) -dsimp only [gr0, gr1, gr2, gr3, Nat.reduceEqDiff, Nat.reduceLT]; done) | (simp (maxSteps := 5000000) -dsimp only [gr0, gr1, gr2, gr3, Nat.reduceEqDiff, Nat.reduceLT]; rfl) | (simp (maxSteps := 5000000) -dsimp only [gr0, gr1, gr2, gr3, Nat.reduceEqDiff, Nat.reduceLT]; simp; done) | assumption | rfl), (by first | (simp (maxSteps := 5000000) -dsimp only [gr0, gr1, gr2, gr3, Nat.reduceEqDiff, Nat.reduceLT]; done) | (simp (maxSteps := 5000000) -dsimp only [gr0, gr1, gr2, gr3, Nat.reduceEqDiff, Nat.reduceLT]; rfl) | (simp (maxSteps := 5000000) -dsimp only [gr0, gr1, gr2, gr3, Nat.reduceEqDiff, Nat.reduceLT]; simp; done) | assumption | rfl), by simp⟩ ?_
  intro k sa ⟨h0a, h1a, h12a, h13a, h14a, hIa⟩
  obtain ⟨hk, hall⟩ := hIa
  simp (maxSteps := 5000000) -dsimp only [↓gp0, ↓gp1, ↓gp2, ↓gp3, ↓gp4, ↓gp5, ↓gp6, ↓gp7, ↓gp8, gq0, gq1, gq2, gq3, gq4, gq5, gq6, gq7, gq8, gq9, gq10, gq11, gq12, gq13, gq14, gq15, gq16, gq17, gq18, gq19, gq20, gq21, gq22, gq23, gq24, gq25, gq26, reduceCtorEq, Nat.reduceEqDiff, Nat.reduceLT, Nat.reduceLeDiff, Nat.reduceAdd, Nat.reduceMul, Nat.reduceSub, Nat.reduceBEq, Int.reduceToNat, Int.reduceLE, Int.reduceLT, Int.reduceNeg, Nat.reduceMod, gT, TK.isInt, TK.agg, Array.toList, h0a, h1a, h12a, h13a, h14a]
  refine ⟨fun h => ⟨h, h, askK_of (c_slices_Contains _ _) ?_⟩, fun h => ⟨hle, fun x hx => ?_⟩⟩
  · simp (maxSteps := 5000000) -dsimp only [↓gp0, ↓gp1, ↓gp2, ↓gp3, ↓gp4, ↓gp5, ↓gp6, ↓gp7, ↓gp8, gq0, gq1, gq2, gq3, gq4, gq5, gq6, gq7, gq8, gq9, gq10, gq11, gq12, gq13, gq14, gq15, gq16, gq17, gq18, gq19, gq20, gq21, gq22, gq23, gq24, gq25, gq26, reduceCtorEq, Nat.reduceEqDiff, Nat.reduceLT, Nat.reduceLeDiff, Nat.reduceAdd, Nat.reduceMul, Nat.reduceSub, Nat.reduceBEq, Int.reduceToNat, Int.reduceLE, Int.reduceLT, Int.reduceNeg, Nat.reduceMod, gT, TK.isInt, TK.agg, Array.toList, h0a, h1a, h12a, h13a, h14a]
    refine ⟨fun hm => fun hg => ?_, fun hm => again_of (k + 1) ⟨(by first | (simp (maxSteps := 5000000) -dsimp only [gr0, gr1, gr2, gr3, Nat.reduceEqDiff, Nat.reduceLT, h0a, h1a, h12a, h13a, h14a, wrap_nat h hl.1]; done) | (simp (maxSteps := 5000000) -dsimp only [gr0, gr1, gr2, gr3, Nat.reduceEqDiff, Nat.reduceLT, h0a, h1a, h12a, h13a, h14a, wrap_nat h hl.1]; rfl) | (simp (maxSteps := 5000000) -dsimp only [gr0, gr1, gr2, gr3, Nat.reduceEqDiff, Nat.reduceLT, h0a, h1a, h12a, h13a, h14a, wrap_nat h hl.1]; simp; done) | assumption | rfl), (by first | (simp (maxSteps := 5000000) -dsimp only [gr0, gr1, gr2, gr3, Nat.reduceEqDiff, Nat.reduceLT, h0a, h1a, h12a, h13a, h14a, wrap_nat h hl.1]; done) | (simp (maxSteps := 5000000) -dsimp only [gr0, gr1, gr2, gr3, Nat.reduceEqDiff, Nat.reduceLT, h0a, h1a, h12a, h13a, h14a, wrap_nat h hl.1]; rfl) | (simp (maxSteps := 5000000) -dsimp only [gr0, gr1, gr2, gr3, Nat.reduceEqDiff, Nat.reduceLT, h0a, h1a, h12a, h13a, h14a, wrap_nat h hl.1]; simp; done) | assumption | rfl), (by first | (simp (maxSteps := 5000000) -dsimp only [gr0, gr1, gr2, gr3, Nat.reduceEqDiff, Nat.reduceLT, h0a, h1a, h12a, h13a, h14a, wrap_nat h hl.1]; done) | (simp (maxSteps := 5000000) -dsimp only [gr0, gr1, gr2, gr3, Nat.reduceEqDiff, Nat.reduceLT, h0a, h1a, h12a, h13a, h14a, wrap_nat h hl.1]; rfl) | (simp (maxSteps := 5000000) -dsimp only [gr0, gr1, gr2, gr3, Nat.reduceEqDiff, Nat.reduceLT, h0a, h1a, h12a, h13a, h14a, wrap_nat h hl.1]; simp; done) | assumption | rfl), (by first | (simp (maxSteps := 5000000) -dsimp only [gr0, gr1, gr2, gr3, Nat.reduceEqDiff, Nat.reduceLT, h0a, h1a, h12a, h13a, h14a, wrap_nat h hl.1]; done) | (simp (maxSteps := 5000000) -dsimp only [gr0, gr1, gr2, gr3, Nat.reduceEqDiff, Nat.reduceLT, h0a, h1a, h12a, h13a, h14a, wrap_nat h hl.1]; rfl) | (simp (maxSteps := 5000000) -dsimp only [gr0, gr1, gr2, gr3, Nat.reduceEqDiff, Nat.reduceLT, h0a, h1a, h12a, h13a, h14a, wrap_nat h hl.1]; simp; done) | assumption | rfl), (by first | (simp (maxSteps := 5000000) -dsimp only [gr0, gr1, gr2, gr3, Nat.reduceEqDiff, Nat.reduceLT, h0a, h1a, h12a, h13a, h14a, wrap_nat h hl.1]; done) | (simp (maxSteps := 5000000) -dsimp only [gr0, gr1, gr2, gr3, Nat.reduceEqDiff, Nat.reduceLT, h0a, h1a, h12a, h13a, h14a, wrap_nat h hl.1]; rfl) | (simp (maxSteps := 5000000) -dsimp only [gr0, gr1, gr2, gr3, Nat.reduceEqDiff, Nat.reduceLT, h0a, h1a, h12a, h13a, h14a, wrap_nat h hl.1]; simp; done) | assumption | rfl), ⟨by omega, fun j hj => ?_⟩⟩ (by first | omega | (simp only; omega))⟩
    · exact of_decide_eq_false (by rwa [Bool.not_eq_true'] at hm) (hg.2 _ (getD_mem 0 h))
    · rcases Nat.lt_succ_iff_lt_or_eq.1 hj with hj | rfl
      · exact hall j hj
      · exact of_decide_eq_true (by rwa [Bool.not_eq_false'] at hm)
  · obtain ⟨i, hi, rfl⟩ := mem_getD 0 hx
    exact hall i (by omega)
theorem c_impl_IsIdeal (n : Int) (xs : List Int) : AC Try.prog 69 [.ag [int n, ints xs]] (.im (bool (isCx n xs))) := by
  refine AC.go (rs := [.tmp 2]) T_ok mixed Try.func69 rfl rfl rfl (by kernel_rfl) fun hl => ?_
  simp (maxSteps := 5000000) -dsimp only [↓gp0, ↓gp1, ↓gp2, ↓gp3, ↓gp4, ↓gp5, ↓gp6, ↓gp7, ↓gp8, gq0, gq1, gq2, gq3, gq4, gq5, gq6, gq7, gq8, gq9, gq10, gq11, gq12, gq13, gq14, gq15, gq16, gq17, gq18, gq19, gq20, gq21, gq22, gq23, gq24, gq25, gq26, reduceCtorEq, Nat.reduceEqDiff, Nat.reduceLT, Nat.reduceLeDiff, Nat.reduceAdd, Nat.reduceMul, Nat.reduceSub, Nat.reduceBEq, Int.reduceToNat, Int.reduceLE, Int.reduceLT, Int.reduceNeg, Nat.reduceMod, gT, TK.isInt, TK.agg, Array.toList]
  refine askK_of (c_impl_isAntichain n xs) ?_
  simp (maxSteps := 5000000) -dsimp only [↓gp0, ↓gp1, ↓gp2, ↓gp3, ↓gp4, ↓gp5, ↓gp6, ↓gp7, ↓gp8, gq0, gq1, gq2, gq3, gq4, gq5, gq6, gq7, gq8, gq9, gq10, gq11, gq12, gq13, gq14, gq15, gq16, gq17, gq18, gq19, gq20, gq21, gq22, gq23, gq24, gq25, gq26, reduceCtorEq, Nat.reduceEqDiff, Nat.reduceLT, Nat.reduceLeDiff, Nat.reduceAdd, Nat.reduceMul, Nat.reduceSub, Nat.reduceBEq, Int.reduceToNat, Int.reduceLE, Int.reduceLT, Int.reduceNeg, Nat.reduceMod, gT, TK.isInt, TK.agg, Array.toList]
theorem isOrd_eq (n : Int) (xs list : List Int) (h : isCx n xs = true) : decide (xs.length = list.length ∧ ∀ x ∈ xs, x ∈ list) = isOrd n xs list := by
  have hc := isCx_iff.1 h
  by_cases hp : xs.length = list.length ∧ ∀ x ∈ xs, x ∈ list
  · rw [decide_eq_true hp, isOrd_yes ⟨hc, (perm_of_sub (cx_nodup hc) hp.2 (by omega)).symm⟩]
  · rw [decide_eq_false hp, isOrd_no fun hg => hp ⟨hg.2.length_eq.symm, fun x hx => hg.2.mem_iff.2 hx⟩]
theorem c_impl_IsGenOrder (n : Int) (xs list : List Int) : AC Try.prog 28 [.ag [int n, ints xs], ints list] (.im (bool (isOrd n xs list))) := by
  refine AC.go (rs := [.tmp 4]) T_ok mixed Try.func28 rfl rfl rfl (by kernel_rfl) fun hl => ?_
  simp (maxSteps := 5000000) -dsimp only [↓gp0, ↓gp1, ↓gp2, ↓gp3, ↓gp4, ↓gp5, ↓gp6, ↓gp7, ↓gp8, gq0, gq1, gq2, gq3, gq4, gq5, gq6, gq7, gq8, gq9, gq10, gq11, gq12, gq13, gq14, gq15, gq16, gq17, gq18, gq19, gq20, gq21, gq22, gq23, gq24, gq25, gq26, reduceCtorEq, Nat.reduceEqDiff, Nat.reduceLT, Nat.reduceLeDiff, Nat.reduceAdd, Nat.reduceMul, Nat.reduceSub, Nat.reduceBEq, Int.reduceToNat, Int.reduceLE, Int.reduceLT, Int.reduceNeg, Nat.reduceMod, gT, TK.isInt, TK.agg, Array.toList]
  refine askK_of (c_impl_IsIdeal n xs) ?_
  simp (maxSteps := 5000000) -dsimp only [↓gp0, ↓gp1, ↓gp2, ↓gp3, ↓gp4, ↓gp5, ↓gp6, ↓gp7, ↓gp8, gq0, gq1, gq2, gq3, gq4, gq5, gq6, gq7, gq8, gq9, gq10, gq11, gq12, gq13, gq14, gq15, gq16, gq17, gq18, gq19, gq20, gq21, gq22, gq23, gq24, gq25, gq26, reduceCtorEq, Nat.reduceEqDiff, Nat.reduceLT, Nat.reduceLeDiff, Nat.reduceAdd, Nat.reduceMul, Nat.reduceSub, Nat.reduceBEq, Int.reduceToNat, Int.reduceLE, Int.reduceLT, Int.reduceNeg, Nat.reduceMod, gT, TK.isInt, TK.agg, Array.toList]
  refine ⟨fun h => askK_of (c_impl_isRearranged xs list) ?_, fun h => isOrd_no fun hg => by rw [isCx_iff.2 hg.1] at h; cases h⟩
  simp (maxSteps := 5000000) -dsimp only [↓gp0, ↓gp1, ↓gp2, ↓gp3, ↓gp4, ↓gp5, ↓gp6, ↓gp7, ↓gp8, gq0, gq1, gq2, gq3, gq4, gq5, gq6, gq7, gq8, gq9, gq10, gq11, gq12, gq13, gq14, gq15, gq16, gq17, gq18, gq19, gq20, gq21, gq22, gq23, gq24, gq25, gq26, reduceCtorEq, Nat.reduceEqDiff, Nat.reduceLT, Nat.reduceLeDiff, Nat.reduceAdd, Nat.reduceMul, Nat.reduceSub, Nat.reduceBEq, Int.reduceToNat, Int.reduceLE, Int.reduceLT, Int.reduceNeg, Nat.reduceMod, gT, TK.isInt, TK.agg, Array.toList, isOrd_eq n xs list h]
theorem c_spec_IsGenOrder (n : Int) (xs list : List Int) : AC Try.prog 25 [.ag [int n, ints xs], ints list] (.im (bool (isOrd n xs list))) := by
  refine AC.go (rs := [.tmp 4]) T_ok mixed Try.func25 rfl rfl rfl (by kernel_rfl) fun hl => ?_
  simp (maxSteps := 5000000) -dsimp only [↓gp0, ↓gp1, ↓gp2, ↓gp3, ↓gp4, ↓gp5, ↓gp6, ↓gp7, ↓gp8, gq0, gq1, gq2, gq3, gq4, gq5, gq6, gq7, gq8, gq9, gq10, gq11, gq12, gq13, gq14, gq15, gq16, gq17, gq18, gq19, gq20, gq21, gq22, gq23, gq24, gq25, gq26, reduceCtorEq, Nat.reduceEqDiff, Nat.reduceLT, Nat.reduceLeDiff, Nat.reduceAdd, Nat.reduceMul, Nat.reduceSub, Nat.reduceBEq, Int.reduceToNat, Int.reduceLE, Int.reduceLT, Int.reduceNeg, Nat.reduceMod, gT, TK.isInt, TK.agg, Array.toList]
  refine askK_of (c_spec_IsOrder n xs list) ?_
  simp (maxSteps := 5000000) -dsimp only [↓gp0, ↓gp1, ↓gp2, ↓gp3, ↓gp4, ↓gp5, ↓gp6, ↓gp7, ↓gp8, gq0, gq1, gq2, gq3, gq4, gq5, gq6, gq7, gq8, gq9, gq10, gq11, gq12, gq13, gq14, gq15, gq16, gq17, gq18, gq19, gq20, gq21, gq22, gq23, gq24, gq25, gq26, reduceCtorEq, Nat.reduceEqDiff, Nat.reduceLT, Nat.reduceLeDiff, Nat.reduceAdd, Nat.reduceMul, Nat.reduceSub, Nat.reduceBEq, Int.reduceToNat, Int.reduceLE, Int.reduceLT, Int.reduceNeg, Nat.reduceMod, gT, TK.isInt, TK.agg, Array.toList]
theorem c_laws_szIdeal (k : Int) (xs : List Int) (n : Int) (h0 : 0 ≤ n) (h1 : n ≤ 1048576) : AC Try.prog 24 [.ag [int k, ints xs], int n] (.im (int (szI n xs.length))) := by
  refine AC.go (rs := [.tmp 4]) T_ok mixed Try.func24 rfl rfl rfl (by kernel_rfl) fun hl => ?_
  simp (maxSteps := 5000000) -dsimp only [↓gp0, ↓gp1, ↓gp2, ↓gp3, ↓gp4, ↓gp5, ↓gp6, ↓gp7, ↓gp8, gq0, gq1, gq2, gq3, gq4, gq5, gq6, gq7, gq8, gq9, gq10, gq11, gq12, gq13, gq14, gq15, gq16, gq17, gq18, gq19, gq20, gq21, gq22, gq23, gq24, gq25, gq26, reduceCtorEq, Nat.reduceEqDiff, Nat.reduceLT, Nat.reduceLeDiff, Nat.reduceAdd, Nat.reduceMul, Nat.reduceSub, Nat.reduceBEq, Int.reduceToNat, Int.reduceLE, Int.reduceLT, Int.reduceNeg, Nat.reduceMod, gT, TK.isInt, TK.agg, Array.toList]
  refine askK_of (c_laws_szIntS xs n h0 h1) ?_
  simp (maxSteps := 5000000) -dsimp only [↓gp0, ↓gp1, ↓gp2, ↓gp3, ↓gp4, ↓gp5, ↓gp6, ↓gp7, ↓gp8, gq0, gq1, gq2, gq3, gq4, gq5, gq6, gq7, gq8, gq9, gq10, gq11, gq12, gq13, gq14, gq15, gq16, gq17, gq18, gq19, gq20, gq21, gq22, gq23, gq24, gq25, gq26, reduceCtorEq, Nat.reduceEqDiff, Nat.reduceLT, Nat.reduceLeDiff, Nat.reduceAdd, Nat.reduceMul, Nat.reduceSub, Nat.reduceBEq, Int.reduceToNat, Int.reduceLE, Int.reduceLT, Int.reduceNeg, Nat.reduceMod, gT, TK.isInt, TK.agg, Array.toList]
  have e : (if n - ↑xs.length < 0 then (-1 : Int) else n - ↑xs.length) = szI n xs.length := rfl
  simp only [e]
  refine ⟨fun h => ?_, fun _ => trivial⟩
  unfold szI at h ⊢
  split <;> omega
theorem c_laws_toIdeal (n : Int) (xs : List Int) (hx : xs.length ≤ 1048576) : AC Try.prog 26 [.ag [int n, ints xs]] (.ag [.im (int n), .fr 3 1 (iL xs)]) := by
  refine AC.go (rs := [.cell 2 27]) T_ok mixed Try.func26 rfl rfl rfl (by kernel_rfl) fun hl => ?_
  simp (maxSteps := 5000000) -dsimp only [↓gp0, ↓gp1, ↓gp2, ↓gp3, ↓gp4, ↓gp5, ↓gp6, ↓gp7, ↓gp8, gq0, gq1, gq2, gq3, gq4, gq5, gq6, gq7, gq8, gq9, gq10, gq11, gq12, gq13, gq14, gq15, gq16, gq17, gq18, gq19, gq20, gq21, gq22, gq23, gq24, gq25, gq26, reduceCtorEq, Nat.reduceEqDiff, Nat.reduceLT, Nat.reduceLeDiff, Nat.reduceAdd, Nat.reduceMul, Nat.reduceSub, Nat.reduceBEq, Int.reduceToNat, Int.reduceLE, Int.reduceLT, Int.reduceNeg, Nat.reduceMod, gT, TK.isInt, TK.agg, Array.toList]
  refine askK_of (c_laws_toIntS xs hx) ?_
  simp (maxSteps := 5000000) -dsimp only [↓gp0, ↓gp1, ↓gp2, ↓gp3, ↓gp4, ↓gp5, ↓gp6, ↓gp7, ↓gp8, gq0, gq1, gq2, gq3, gq4, gq5, gq6, gq7, gq8, gq9, gq10, gq11, gq12, gq13, gq14, gq15, gq16, gq17, gq18, gq19, gq20, gq21, gq22, gq23, gq24, gq25, gq26, reduceCtorEq, Nat.reduceEqDiff, Nat.reduceLT, Nat.reduceLeDiff, Nat.reduceAdd, Nat.reduceMul, Nat.reduceSub, Nat.reduceBEq, Int.reduceToNat, Int.reduceLE, Int.reduceLT, Int.reduceNeg, Nat.reduceMod, gT, TK.isInt, TK.agg, Array.toList]
end Go.Proofs.Ytfjjopfeipggiaa

namespace Go.Proofs.Ytfjjopfeipggiaa
open Go.Abs
set_option linter.unusedSimpArgs false
set_option linter.unusedVariables false

/-- The points that are not in a set. -/
def compl (n s : Int) : Int := if inSet n s = true then 2 ^ n.toNat - 1 - s else -1
theorem inSet_nat {n s : Int} (h : inSet n s = true) : ∃ m t : Nat, n = m ∧ s = t ∧ m ≤ 6 ∧ t < 2 ^ m := by
  unfold inSet at h
  have h := of_decide_eq_true h
  obtain ⟨m, rfl⟩ := Int.eq_ofNat_of_zero_le h.1
  obtain ⟨t, rfl⟩ := Int.eq_ofNat_of_zero_le h.2.2.1
  refine ⟨m, t, rfl, rfl, by omega, ?_⟩
  have := h.2.2.2
  rw [pow_nat] at this
  omega
theorem c_spec_ComplementOf (n s : Int) : AC Try.prog 83 [int n, int s] (.im (int (compl n s))) := by
  refine AC.go (rs := [.tmp 4]) T_ok mixed Try.func83 rfl rfl rfl (by kernel_rfl) fun hl => ?_
  simp (maxSteps := 5000000) -dsimp only [↓gp0, ↓gp1, ↓gp2, ↓gp3, ↓gp4, ↓gp5, ↓gp6, ↓gp7, ↓gp8, gq0, gq1, gq2, gq3, gq4, gq5, gq6, gq7, gq8, gq9, gq10, gq11, gq12, gq13, gq14, gq15, gq16, gq17, gq18, gq19, gq20, gq21, gq22, gq23, gq24, gq25, gq26, reduceCtorEq, Nat.reduceEqDiff, Nat.reduceLT, Nat.reduceLeDiff, Nat.reduceAdd, Nat.reduceMul, Nat.reduceSub, Nat.reduceBEq, Int.reduceToNat, Int.reduceLE, Int.reduceLT, Int.reduceNeg, Nat.reduceMod, gT, TK.isInt, TK.agg, Array.toList]
  refine askK_of (c_spec_IsSet _ _) ?_
  simp (maxSteps := 5000000) -dsimp only [↓gp0, ↓gp1, ↓gp2, ↓gp3, ↓gp4, ↓gp5, ↓gp6, ↓gp7, ↓gp8, gq0, gq1, gq2, gq3, gq4, gq5, gq6, gq7, gq8, gq9, gq10, gq11, gq12, gq13, gq14, gq15, gq16, gq17, gq18, gq19, gq20, gq21, gq22, gq23, gq24, gq25, gq26, reduceCtorEq, Nat.reduceEqDiff, Nat.reduceLT, Nat.reduceLeDiff, Nat.reduceAdd, Nat.reduceMul, Nat.reduceSub, Nat.reduceBEq, Int.reduceToNat, Int.reduceLE, Int.reduceLT, Int.reduceNeg, Nat.reduceMod, gT, TK.isInt, TK.agg, Array.toList]
  unfold compl
  refine ⟨fun h => ?_, fun h => ?_⟩
  · have h : inSet n s = false := by rwa [Bool.not_eq_true'] at h
    simp [h]
  · have h : inSet n s = true := by rwa [Bool.not_eq_false'] at h
    obtain ⟨m, t, rfl, rfl, hm, ht⟩ := inSet_nat h
    have h64 := two_pow_le hm
    rw [if_pos h]
    rw [uwrap_nat (by omega), ishl_small (by omega), pow_nat]
    generalize (2 ^ m : Nat) = q at *
    refine ⟨by omega, ?_⟩
    rw [wrap_id (n := (q : Int) - 1) (by omega) (by omega), wrap_id (by omega) (by omega)]
theorem compl_bits : ∀ m, m < 7 → ∀ t, t < 64 → t < 2 ^ m → ((2 ^ m - 1) ^^^ ((2 ^ m - 1) &&& t)) = 2 ^ m - 1 - t := by decide +kernel
theorem c_impl_ComplementOf (n s : Int) : AC Try.prog 84 [int n, int s] (.im (int (compl n s))) := by
  refine AC.go (rs := [.tmp 4]) T_ok mixed Try.func84 rfl rfl rfl (by kernel_rfl) fun hl => ?_
  simp (maxSteps := 5000000) -dsimp only [↓gp0, ↓gp1, ↓gp2, ↓gp3, ↓gp4, ↓gp5, ↓gp6, ↓gp7, ↓gp8, gq0, gq1, gq2, gq3, gq4, gq5, gq6, gq7, gq8, gq9, gq10, gq11, gq12, gq13, gq14, gq15, gq16, gq17, gq18, gq19, gq20, gq21, gq22, gq23, gq24, gq25, gq26, reduceCtorEq, Nat.reduceEqDiff, Nat.reduceLT, Nat.reduceLeDiff, Nat.reduceAdd, Nat.reduceMul, Nat.reduceSub, Nat.reduceBEq, Int.reduceToNat, Int.reduceLE, Int.reduceLT, Int.reduceNeg, Nat.reduceMod, gT, TK.isInt, TK.agg, Array.toList]
  refine askK_of (c_impl_IsSet _ _) ?_
  simp (maxSteps := 5000000) -dsimp only [↓gp0, ↓gp1, ↓gp2, ↓gp3, ↓gp4, ↓gp5, ↓gp6, ↓gp7, ↓gp8, gq0, gq1, gq2, gq3, gq4, gq5, gq6, gq7, gq8, gq9, gq10, gq11, gq12, gq13, gq14, gq15, gq16, gq17, gq18, gq19, gq20, gq21, gq22, gq23, gq24, gq25, gq26, reduceCtorEq, Nat.reduceEqDiff, Nat.reduceLT, Nat.reduceLeDiff, Nat.reduceAdd, Nat.reduceMul, Nat.reduceSub, Nat.reduceBEq, Int.reduceToNat, Int.reduceLE, Int.reduceLT, Int.reduceNeg, Nat.reduceMod, gT, TK.isInt, TK.agg, Array.toList]
  unfold compl
  refine ⟨fun h => ?_, fun h => ?_⟩
  · have h : inSet n s = false := by rwa [Bool.not_eq_true'] at h
    simp [h]
  · have h : inSet n s = true := by rwa [Bool.not_eq_false'] at h
    obtain ⟨m, t, rfl, rfl, hm, ht⟩ := inSet_nat h
    have h64 := two_pow_le hm
    rw [if_pos h]
    rw [uwrap_nat (by omega), ishl_small (by omega), pow_nat]
    have hb := compl_bits m (by omega) t (by omega) ht
    have h1 := Nat.one_le_two_pow (n := m)
    generalize (2 ^ m : Nat) = q at *
    refine ⟨by omega, ?_⟩
    rw [wrap_id (n := (q : Int) - 1) (by omega) (by omega), show (q : Int) - 1 = ((q - 1 : Nat) : Int) by omega, iandnot_nat (by omega) (by omega), hb]
    congr 2
    omega
/-- The complements in the order of the list. -/
noncomputable def shellL (n : Int) (xs list : List Int) : List Int := if isOrd n xs list = true then list.map (compl n) else []
theorem shellL_le {n : Int} {xs list : List Int} {b : Nat} (h : list.length ≤ b) : (shellL n xs list).length ≤ b := by
  unfold shellL; split <;> simp [h]
theorem map_snoc {f : Int → Int} {l : List Int} {k : Nat} (h : k < l.length) : (l.take k).map f ++ [f (l.getD k 0)] = (l.take (k + 1)).map f := by
  rw [take_snoc 0 h]; simp
theorem c_spec_ShellingOrder (n : Int) (xs list : List Int) (hx : list.length ≤ 1048576) : AC Try.prog 37 [.ag [int n, ints xs], ints list] (.fr 3 1 (iL (shellL n xs list))) := by
  refine AC.go (rs := [.tmp 4]) T_ok mixed Try.func37 rfl rfl rfl (by kernel_rfl) fun hl => ?_
  simp only [lens_cons, lens_nil, and_true, lens2_ag2, lens1_v, lens1_iL, lens2_iL, true_and] at hl
  simp (maxSteps := 5000000) -dsimp only [↓gp0, ↓gp1, ↓gp2, ↓gp3, ↓gp4, ↓gp5, ↓gp6, ↓gp7, ↓gp8, gq0, gq1, gq2, gq3, gq4, gq5, gq6, gq7, gq8, gq9, gq10, gq11, gq12, gq13, gq14, gq15, gq16, gq17, gq18, gq19, gq20, gq21, gq22, gq23, gq24, gq25, gq26, reduceCtorEq, Nat.reduceEqDiff, Nat.reduceLT, Nat.reduceLeDiff, Nat.reduceAdd, Nat.reduceMul, Nat.reduceSub, Nat.reduceBEq, Int.reduceToNat, Int.reduceLE, Int.reduceLT, Int.reduceNeg, Nat.reduceMod, gT, TK.isInt, TK.agg, Array.toList]
  refine loop_of (fun (za : Nat × Nat) s => match za with | (k, v) => s.sl 1 = ints list ∧ s.sl 2 = .ref 2 1 0 ∧ s.rw 2 = ⟨1, .box 27 [int n, ints xs]⟩ ∧ s.sl 5 = .own 7 v ∧ s.rw 7 = ⟨v, .sli 3 1 false (iL ((list.take k).map (compl n)))⟩ ∧ s.sl 6 = int k ∧ (k ≤ list.length ∧ (0 < k → isOrd n xs list = true))) (fun (k, v) => list.length - k) ((0, 1)) ⟨(by first | (simp (maxSteps := 5000000) -dsimp only [gr0, gr1, gr2, gr3, Nat.reduceEqDiff, Nat.reduceLT]; done) | (simp (maxSteps := 5000000) -dsimp only [gr0, gr1, gr2, gr3, Nat.reduceEqDiff, Nat.reduceLT]; rfl) | (simp (maxSteps := 5000000) -dsimp only [gr0, gr1, gr2, gr3, Nat.reduceEqDiff, Nat.reduceLT]; simp; done) | assumption | rfl), (by first | (simp (maxSteps := 5000000) -dsimp only [gr0, gr1, gr2, gr3, Nat.reduceEqDiff, Nat.reduceLT]; done) | (simp (maxSteps := 5000000) -dsimp only [gr0, gr1, gr2, gr3, Nat.reduceEqDiff, Nat.reduceLT]; rfl) | (simp (maxSteps := 5000000) -dsimp only [gr0, gr1, gr2, gr3, Nat.reduceEqDiff, Nat.reduceLT]; simp; done) | assumption | rfl), (by first | (simp (maxSteps := 5000000) -dsimp only [gr0, gr1, gr2, gr3, Nat.reduceEqDiff, Nat.reduceLT]; done) | (simp (maxSteps := 5000000) -dsimp only [gr0, gr1, gr2, gr3, Nat.reduceEqDiff, Nat.reduceLT]; rfl) | (simp (maxSteps := 5000000) -dsimp only [gr0, gr1, gr2, gr3, Nat.reduceEqDiff, Nat.reduceLT]; simp; done) | assumption | rfl), (by first | (simp (maxSteps := 5000000) -dsimp only [gr0, gr1, gr2, gr3, Nat.reduceEqDiff, Nat.reduceLT]; done) | (simp (maxSteps := 5000000) -dsimp only [gr0, gr1, gr2, gr3, Nat.reduceEqDiff, Nat.reduceLT]; rfl) | (simp (maxSteps := 5000000) -dsimp only [gr0, gr1, gr2, gr3, Nat.reduceEqDiff, Nat.reduceLT]; simp; done) | assumption | rfl), (by first | (simp (maxSteps := 5000000) -dsimp only [gr0, gr1, gr2, gr3, Nat.reduceEqDiff, Nat.reduceLT]; done) | (simp (maxSteps := 5000000) -dsimp only [gr0, gr1, gr2, gr3, Nat.reduceEqDiff, Nat.reduceLT]; rfl) | (simp (maxSteps := 5000000) -dsimp only [gr0, gr1, gr2, gr3, Nat.reduceEqDiff, Nat.reduceLT]; simp; done) | assumption | rfl), (by first | (simp (maxSteps := 5000000) -dsimp only [gr0, gr1, gr2, gr3, Nat.reduceEqDiff, Nat.reduceLT]; done) | (simp (maxSteps := 5000000) -dsimp only [gr0, gr1, gr2, gr3, Nat.reduceEqDiff, Nat.reduceLT]; rfl) | (simp (maxSteps := 5000000) -dsimp only [gr0, gr1, gr2, gr3, Nat.reduceEqDiff, Nat.reduceLT]; simp; done) | assumption | rfl), by simp⟩ ?_
  intro (k, v) sa ⟨h1a, h2a, r2a, h5a, r7a, h6a, hIa⟩
  obtain ⟨hk, hall⟩ := hIa
  simp (maxSteps := 5000000) -dsimp only [↓gp0, ↓gp1, ↓gp2, ↓gp3, ↓gp4, ↓gp5, ↓gp6, ↓gp7, ↓gp8, gq0, gq1, gq2, gq3, gq4, gq5, gq6, gq7, gq8, gq9, gq10, gq11, gq12, gq13, gq14, gq15, gq16, gq17, gq18, gq19, gq20, gq21, gq22, gq23, gq24, gq25, gq26, reduceCtorEq, Nat.reduceEqDiff, Nat.reduceLT, Nat.reduceLeDiff, Nat.reduceAdd, Nat.reduceMul, Nat.reduceSub, Nat.reduceBEq, Int.reduceToNat, Int.reduceLE, Int.reduceLT, Int.reduceNeg, Nat.reduceMod, gT, TK.isInt, TK.agg, Array.toList, h1a, h2a, r2a, h5a, r7a, h6a]
  refine ⟨fun h => askK_of (c_spec_IsGenOrder n xs list) ?_, fun h => ?_⟩
  · simp (maxSteps := 5000000) -dsimp only [↓gp0, ↓gp1, ↓gp2, ↓gp3, ↓gp4, ↓gp5, ↓gp6, ↓gp7, ↓gp8, gq0, gq1, gq2, gq3, gq4, gq5, gq6, gq7, gq8, gq9, gq10, gq11, gq12, gq13, gq14, gq15, gq16, gq17, gq18, gq19, gq20, gq21, gq22, gq23, gq24, gq25, gq26, reduceCtorEq, Nat.reduceEqDiff, Nat.reduceLT, Nat.reduceLeDiff, Nat.reduceAdd, Nat.reduceMul, Nat.reduceSub, Nat.reduceBEq, Int.reduceToNat, Int.reduceLE, Int.reduceLT, Int.reduceNeg, Nat.reduceMod, gT, TK.isInt, TK.agg, Array.toList, h1a, h2a, r2a, h5a, r7a, h6a]
    refine ⟨fun ho => ⟨by kernel_rfl, by omega, by omega, askK_of (c_spec_ComplementOf _ _) ?_⟩, fun ho => ?_⟩
    · simp (maxSteps := 5000000) -dsimp only [↓gp0, ↓gp1, ↓gp2, ↓gp3, ↓gp4, ↓gp5, ↓gp6, ↓gp7, ↓gp8, gq0, gq1, gq2, gq3, gq4, gq5, gq6, gq7, gq8, gq9, gq10, gq11, gq12, gq13, gq14, gq15, gq16, gq17, gq18, gq19, gq20, gq21, gq22, gq23, gq24, gq25, gq26, reduceCtorEq, Nat.reduceEqDiff, Nat.reduceLT, Nat.reduceLeDiff, Nat.reduceAdd, Nat.reduceMul, Nat.reduceSub, Nat.reduceBEq, Int.reduceToNat, Int.reduceLE, Int.reduceLT, Int.reduceNeg, Nat.reduceMod, gT, TK.isInt, TK.agg, Array.toList, h1a, h2a, r2a, h5a, r7a, h6a]
      refine ⟨by simp [List.length_take]; omega, by kernel_rfl, ?_⟩
      exact again_of ((k + 1, v + 1)) ⟨(by first | (simp (maxSteps := 5000000) -dsimp only [gr0, gr1, gr2, gr3, Nat.reduceEqDiff, Nat.reduceLT, h1a, h2a, r2a, h5a, r7a, h6a, wrap_nat h hl.2, map_snoc h]; done) | (simp (maxSteps := 5000000) -dsimp only [gr0, gr1, gr2, gr3, Nat.reduceEqDiff, Nat.reduceLT, h1a, h2a, r2a, h5a, r7a, h6a, wrap_nat h hl.2, map_snoc h]; rfl) | (simp (maxSteps := 5000000) -dsimp only [gr0, gr1, gr2, gr3, Nat.reduceEqDiff, Nat.reduceLT, h1a, h2a, r2a, h5a, r7a, h6a, wrap_nat h hl.2, map_snoc h]; simp; done) | assumption | rfl), (by first | (simp (maxSteps := 5000000) -dsimp only [gr0, gr1, gr2, gr3, Nat.reduceEqDiff, Nat.reduceLT, h1a, h2a, r2a, h5a, r7a, h6a, wrap_nat h hl.2, map_snoc h]; done) | (simp (maxSteps := 5000000) -dsimp only [gr0, gr1, gr2, gr3, Nat.reduceEqDiff, Nat.reduceLT, h1a, h2a, r2a, h5a, r7a, h6a, wrap_nat h hl.2, map_snoc h]; rfl) | (simp (maxSteps := 5000000) -dsimp only [gr0, gr1, gr2, gr3, Nat.reduceEqDiff, Nat.reduceLT, h1a, h2a, r2a, h5a, r7a, h6a, wrap_nat h hl.2, map_snoc h]; simp; done) | assumption | rfl), (by first | (simp (maxSteps := 5000000) -dsimp only [gr0, gr1, gr2, gr3, Nat.reduceEqDiff, Nat.reduceLT, h1a, h2a, r2a, h5a, r7a, h6a, wrap_nat h hl.2, map_snoc h]; done) | (simp (maxSteps := 5000000) -dsimp only [gr0, gr1, gr2, gr3, Nat.reduceEqDiff, Nat.reduceLT, h1a, h2a, r2a, h5a, r7a, h6a, wrap_nat h hl.2, map_snoc h]; rfl) | (simp (maxSteps := 5000000) -dsimp only [gr0, gr1, gr2, gr3, Nat.reduceEqDiff, Nat.reduceLT, h1a, h2a, r2a, h5a, r7a, h6a, wrap_nat h hl.2, map_snoc h]; simp; done) | assumption | rfl), (by first | (simp (maxSteps := 5000000) -dsimp only [gr0, gr1, gr2, gr3, Nat.reduceEqDiff, Nat.reduceLT, h1a, h2a, r2a, h5a, r7a, h6a, wrap_nat h hl.2, map_snoc h]; done) | (simp (maxSteps := 5000000) -dsimp only [gr0, gr1, gr2, gr3, Nat.reduceEqDiff, Nat.reduceLT, h1a, h2a, r2a, h5a, r7a, h6a, wrap_nat h hl.2, map_snoc h]; rfl) | (simp (maxSteps := 5000000) -dsimp only [gr0, gr1, gr2, gr3, Nat.reduceEqDiff, Nat.reduceLT, h1a, h2a, r2a, h5a, r7a, h6a, wrap_nat h hl.2, map_snoc h]; simp; done) | assumption | rfl), (by first | (simp (maxSteps := 5000000) -dsimp only [gr0, gr1, gr2, gr3, Nat.reduceEqDiff, Nat.reduceLT, h1a, h2a, r2a, h5a, r7a, h6a, wrap_nat h hl.2, map_snoc h]; done) | (simp (maxSteps := 5000000) -dsimp only [gr0, gr1, gr2, gr3, Nat.reduceEqDiff, Nat.reduceLT, h1a, h2a, r2a, h5a, r7a, h6a, wrap_nat h hl.2, map_snoc h]; rfl) | (simp (maxSteps := 5000000) -dsimp only [gr0, gr1, gr2, gr3, Nat.reduceEqDiff, Nat.reduceLT, h1a, h2a, r2a, h5a, r7a, h6a, wrap_nat h hl.2, map_snoc h]; simp; done) | assumption | rfl), (by first | (simp (maxSteps := 5000000) -dsimp only [gr0, gr1, gr2, gr3, Nat.reduceEqDiff, Nat.reduceLT, h1a, h2a, r2a, h5a, r7a, h6a, wrap_nat h hl.2, map_snoc h]; done) | (simp (maxSteps := 5000000) -dsimp only [gr0, gr1, gr2, gr3, Nat.reduceEqDiff, Nat.reduceLT, h1a, h2a, r2a, h5a, r7a, h6a, wrap_nat h hl.2, map_snoc h]; rfl) | (simp (maxSteps := 5000000) -dsimp only [gr0, gr1, gr2, gr3, Nat.reduceEqDiff, Nat.reduceLT, h1a, h2a, r2a, h5a, r7a, h6a, wrap_nat h hl.2, map_snoc h]; simp; done) | assumption | rfl), ⟨by omega, fun _ => ho⟩⟩ (by first | omega | (simp only; omega))
    · have : k = 0 := by
        rcases Nat.eq_zero_or_pos k with h | h
        · exact h
        · rw [hall h] at ho; cases ho
      subst this
      simp [shellL, ho]
  · obtain rfl : k = list.length := by omega
    congr 1
    unfold shellL
    rcases Nat.eq_zero_or_pos list.length with h0 | h0
    · have : list = [] := List.eq_nil_of_length_eq_zero h0
      subst this
      split <;> simp
    · rw [if_pos (hall h0), List.take_length]
theorem c_impl_ShellingOrder (n : Int) (xs list : List Int) (hx : list.length ≤ 1048576) : AC Try.prog 38 [.ag [int n, ints xs], ints list] (.fr 3 1 (iL (shellL n xs list))) := by
  refine AC.go (rs := [.tmp 4]) T_ok mixed Try.func38 rfl rfl rfl (by kernel_rfl) fun hl => ?_
  simp only [lens_cons, lens_nil, and_true, lens2_ag2, lens1_v, lens1_iL, lens2_iL, true_and] at hl
  simp (maxSteps := 5000000) -dsimp only [↓gp0, ↓gp1, ↓gp2, ↓gp3, ↓gp4, ↓gp5, ↓gp6, ↓gp7, ↓gp8, gq0, gq1, gq2, gq3, gq4, gq5, gq6, gq7, gq8, gq9, gq10, gq11, gq12, gq13, gq14, gq15, gq16, gq17, gq18, gq19, gq20, gq21, gq22, gq23, gq24, gq25, gq26, reduceCtorEq, Nat.reduceEqDiff, Nat.reduceLT, Nat.reduceLeDiff, Nat.reduceAdd, Nat.reduceMul, Nat.reduceSub, Nat.reduceBEq, Int.reduceToNat, Int.reduceLE, Int.reduceLT, Int.reduceNeg, Nat.reduceMod, gT, TK.isInt, TK.agg, Array.toList]
  refine askK_of (c_impl_IsGenOrder n xs list) ?_
  simp (maxSteps := 5000000) -dsimp only [↓gp0, ↓gp1, ↓gp2, ↓gp3, ↓gp4, ↓gp5, ↓gp6, ↓gp7, ↓gp8, gq0, gq1, gq2, gq3, gq4, gq5, gq6, gq7, gq8, gq9, gq10, gq11, gq12, gq13, gq14, gq15, gq16, gq17, gq18, gq19, gq20, gq21, gq22, gq23, gq24, gq25, gq26, reduceCtorEq, Nat.reduceEqDiff, Nat.reduceLT, Nat.reduceLeDiff, Nat.reduceAdd, Nat.reduceMul, Nat.reduceSub, Nat.reduceBEq, Int.reduceToNat, Int.reduceLE, Int.reduceLT, Int.reduceNeg, Nat.reduceMod, gT, TK.isInt, TK.agg, Array.toList]
  refine ⟨fun ho => ?_, fun ho => ?_⟩
  · have ho : isOrd n xs list = false := by rwa [Bool.not_eq_true'] at ho
    simp [shellL, ho, iL]
  · have ho : isOrd n xs list = true := by rwa [Bool.not_eq_false'] at ho
    refine loop_of (fun (za : Nat × Nat) s => match za with | (k, v) => s.sl 2 = .ref 2 1 0 ∧ s.rw 2 = ⟨1, .box 27 [int n, ints xs]⟩ ∧ s.sl 5 = .own 5 v ∧ s.rw 5 = ⟨v, .sli 3 1 false (iL ((list.take k).map (compl n)))⟩ ∧ s.sl 12 = ints list ∧ s.sl 13 = int list.length ∧ s.sl 14 = int k ∧ (k ≤ list.length)) (fun (k, v) => list.length - k) ((0, 1)) ⟨(by first | (simp (maxSteps := 5000000) -dsimp only [gr0, gr1, gr2, gr3, Nat.reduceEqDiff, Nat.reduceLT]; done) | (simp (maxSteps := 5000000) -dsimp only [gr0, gr1, gr2, gr3, Nat.reduceEqDiff, Nat.reduceLT]; rfl) | (simp (maxSteps := 5000000) -dsimp only [gr0, gr1, gr2, gr3, Nat.reduceEqDiff, Nat.reduceLT]; simp; done) | assumption | rfl), (by first | (simp (maxSteps := 5000000) -dsimp only [gr0, gr1, gr2, gr3, Nat.reduceEqDiff, Nat.reduceLT]; done) | (simp (maxSteps := 5000000) -dsimp only [gr0, gr1, gr2, gr3, Nat.reduceEqDiff, Nat.reduceLT]; rfl) | (simp (maxSteps := 5000000) -dsimp only [gr0, gr1, gr2, gr3, Nat.reduceEqDiff, Nat.reduceLT]; simp; done) | assumption | rfl), (by first | (simp (maxSteps := 5000000) -dsimp only [gr0, gr1, gr2, gr3, Nat.reduceEqDiff, Nat.reduceLT]; done) | (simp (maxSteps := 5000000) -dsimp only [gr0, gr1, gr2, gr3, Nat.reduceEqDiff, Nat.reduceLT]; rfl) | (simp (maxSteps := 5000000) -dsimp only [gr0, gr1, gr2, gr3, Nat.reduceEqDiff, Nat.reduceLT]; simp; done) | assumption | rfl), (by first | (simp (maxSteps := 5000000) -dsimp only [gr0, gr1, gr2, gr3, Nat.reduceEqDiff, Nat.reduceLT]; done) | (simp (maxSteps := 5000000) -dsimp only [gr0, gr1, gr2, gr3, Nat.reduceEqDiff, Nat.reduceLT]; rfl) | (simp (maxSteps := 5000000) -dsimp only [gr0, gr1, gr2, gr3, Nat.reduceEqDiff, Nat.reduceLT]; simp; done) | assumption | rfl), (by first | (simp (maxSteps := 5000000) -dsimp only [gr0, gr1, gr2, gr3, Nat.reduceEqDiff, Nat.reduceLT]; done) | (simp (maxSteps := 5000000) -dsimp only [gr0, gr1, gr2, gr3, Nat.reduceEqDiff, Nat.reduceLT]; rfl) | (simp (maxSteps := 5000000) -dsimp only [gr0, gr1, gr2, gr3, Nat.reduceEqDiff, Nat.reduceLT]; simp; done) | assumption | rfl), (by first | (simp (maxSteps := 5000000) -dsimp only [gr0, gr1, gr2, gr3, Nat.reduceEqDiff, Nat.reduceLT]; done) | (simp (maxSteps := 5000000) -dsimp only [gr0, gr1, gr2, gr3, Nat.reduceEqDiff, Nat.reduceLT]; rfl) | (simp (maxSteps := 5000000) -dsimp only [gr0, gr1, gr2, gr3, Nat.reduceEqDiff, Nat.reduceLT]; simp; done) | assumption | rfl), (by first | (simp (maxSteps := 5000000) -dsimp only [gr0, gr1, gr2, gr3, Nat.reduceEqDiff, Nat.reduceLT]; done) | (simp (maxSteps := 5000000) -dsimp only [gr0, gr1, gr2, gr3, Nat.reduceEqDiff, Nat.reduceLT]; rfl) | (simp (maxSteps := 5000000) -dsimp only [gr0, gr1, gr2, gr3, Nat.reduceEqDiff, Nat.reduceLT]; simp; done) | assumption | rfl), by simp⟩ ?_
    intro (k, v) sa ⟨h2a, r2a, h5a, r5a, h12a, h13a, h14a, hIa⟩
    simp (maxSteps := 5000000) -dsimp only [↓gp0, ↓gp1, ↓gp2, ↓gp3, ↓gp4, ↓gp5, ↓gp6, ↓gp7, ↓gp8, gq0, gq1, gq2, gq3, gq4, gq5, gq6, gq7, gq8, gq9, gq10, gq11, gq12, gq13, gq14, gq15, gq16, gq17, gq18, gq19, gq20, gq21, gq22, gq23, gq24, gq25, gq26, reduceCtorEq, Nat.reduceEqDiff, Nat.reduceLT, Nat.reduceLeDiff, Nat.reduceAdd, Nat.reduceMul, Nat.reduceSub, Nat.reduceBEq, Int.reduceToNat, Int.reduceLE, Int.reduceLT, Int.reduceNeg, Nat.reduceMod, gT, TK.isInt, TK.agg, Array.toList, h2a, r2a, h5a, r5a, h12a, h13a, h14a]
    refine ⟨fun h => ⟨h, h, askK_of (c_impl_ComplementOf _ _) ?_⟩, fun h => ?_⟩
    · simp (maxSteps := 5000000) -dsimp only [↓gp0, ↓gp1, ↓gp2, ↓gp3, ↓gp4, ↓gp5, ↓gp6, ↓gp7, ↓gp8, gq0, gq1, gq2, gq3, gq4, gq5, gq6, gq7, gq8, gq9, gq10, gq11, gq12, gq13, gq14, gq15, gq16, gq17, gq18, gq19, gq20, gq21, gq22, gq23, gq24, gq25, gq26, reduceCtorEq, Nat.reduceEqDiff, Nat.reduceLT, Nat.reduceLeDiff, Nat.reduceAdd, Nat.reduceMul, Nat.reduceSub, Nat.reduceBEq, Int.reduceToNat, Int.reduceLE, Int.reduceLT, Int.reduceNeg, Nat.reduceMod, gT, TK.isInt, TK.agg, Array.toList, h2a, r2a, h5a, r5a, h12a, h13a, h14a]
      refine ⟨by simp [List.length_take]; omega, ?_⟩
      exact again_of ((k + 1, v + 1)) ⟨(by first | (simp (maxSteps := 5000000) -dsimp only [gr0, gr1, gr2, gr3, Nat.reduceEqDiff, Nat.reduceLT, h2a, r2a, h5a, r5a, h12a, h13a, h14a, wrap_nat h hl.2, map_snoc h]; done) | (simp (maxSteps := 5000000) -dsimp only [gr0, gr1, gr2, gr3, Nat.reduceEqDiff, Nat.reduceLT, h2a, r2a, h5a, r5a, h12a, h13a, h14a, wrap_nat h hl.2, map_snoc h]; rfl) | (simp (maxSteps := 5000000) -dsimp only [gr0, gr1, gr2, gr3, Nat.reduceEqDiff, Nat.reduceLT, h2a, r2a, h5a, r5a, h12a, h13a, h14a, wrap_nat h hl.2, map_snoc h]; simp; done) | assumption | rfl), (by first | (simp (maxSteps := 5000000) -dsimp only [gr0, gr1, gr2, gr3, Nat.reduceEqDiff, Nat.reduceLT, h2a, r2a, h5a, r5a, h12a, h13a, h14a, wrap_nat h hl.2, map_snoc h]; done) | (simp (maxSteps := 5000000) -dsimp only [gr0, gr1, gr2, gr3, Nat.reduceEqDiff, Nat.reduceLT, h2a, r2a, h5a, r5a, h12a, h13a, h14a, wrap_nat h hl.2, map_snoc h]; rfl) | (simp (maxSteps := 5000000) -dsimp only [gr0, gr1, gr2, gr3, Nat.reduceEqDiff, Nat.reduceLT, h2a, r2a, h5a, r5a, h12a, h13a, h14a, wrap_nat h hl.2, map_snoc h]; simp; done) | assumption | rfl), (by first | (simp (maxSteps := 5000000) -dsimp only [gr0, gr1, gr2, gr3, Nat.reduceEqDiff, Nat.reduceLT, h2a, r2a, h5a, r5a, h12a, h13a, h14a, wrap_nat h hl.2, map_snoc h]; done) | (simp (maxSteps := 5000000) -dsimp only [gr0, gr1, gr2, gr3, Nat.reduceEqDiff, Nat.reduceLT, h2a, r2a, h5a, r5a, h12a, h13a, h14a, wrap_nat h hl.2, map_snoc h]; rfl) | (simp (maxSteps := 5000000) -dsimp only [gr0, gr1, gr2, gr3, Nat.reduceEqDiff, Nat.reduceLT, h2a, r2a, h5a, r5a, h12a, h13a, h14a, wrap_nat h hl.2, map_snoc h]; simp; done) | assumption | rfl), (by first | (simp (maxSteps := 5000000) -dsimp only [gr0, gr1, gr2, gr3, Nat.reduceEqDiff, Nat.reduceLT, h2a, r2a, h5a, r5a, h12a, h13a, h14a, wrap_nat h hl.2, map_snoc h]; done) | (simp (maxSteps := 5000000) -dsimp only [gr0, gr1, gr2, gr3, Nat.reduceEqDiff, Nat.reduceLT, h2a, r2a, h5a, r5a, h12a, h13a, h14a, wrap_nat h hl.2, map_snoc h]; rfl) | (simp (maxSteps := 5000000) -dsimp only [gr0, gr1, gr2, gr3, Nat.reduceEqDiff, Nat.reduceLT, h2a, r2a, h5a, r5a, h12a, h13a, h14a, wrap_nat h hl.2, map_snoc h]; simp; done) | assumption | rfl), (by first | (simp (maxSteps := 5000000) -dsimp only [gr0, gr1, gr2, gr3, Nat.reduceEqDiff, Nat.reduceLT, h2a, r2a, h5a, r5a, h12a, h13a, h14a, wrap_nat h hl.2, map_snoc h]; done) | (simp (maxSteps := 5000000) -dsimp only [gr0, gr1, gr2, gr3, Nat.reduceEqDiff, Nat.reduceLT, h2a, r2a, h5a, r5a, h12a, h13a, h14a, wrap_nat h hl.2, map_snoc h]; rfl) | (simp (maxSteps := 5000000) -dsimp only [gr0, gr1, gr2, gr3, Nat.reduceEqDiff, Nat.reduceLT, h2a, r2a, h5a, r5a, h12a, h13a, h14a, wrap_nat h hl.2, map_snoc h]; simp; done) | assumption | rfl), (by first | (simp (maxSteps := 5000000) -dsimp only [gr0, gr1, gr2, gr3, Nat.reduceEqDiff, Nat.reduceLT, h2a, r2a, h5a, r5a, h12a, h13a, h14a, wrap_nat h hl.2, map_snoc h]; done) | (simp (maxSteps := 5000000) -dsimp only [gr0, gr1, gr2, gr3, Nat.reduceEqDiff, Nat.reduceLT, h2a, r2a, h5a, r5a, h12a, h13a, h14a, wrap_nat h hl.2, map_snoc h]; rfl) | (simp (maxSteps := 5000000) -dsimp only [gr0, gr1, gr2, gr3, Nat.reduceEqDiff, Nat.reduceLT, h2a, r2a, h5a, r5a, h12a, h13a, h14a, wrap_nat h hl.2, map_snoc h]; simp; done) | assumption | rfl), (by first | (simp (maxSteps := 5000000) -dsimp only [gr0, gr1, gr2, gr3, Nat.reduceEqDiff, Nat.reduceLT, h2a, r2a, h5a, r5a, h12a, h13a, h14a, wrap_nat h hl.2, map_snoc h]; done) | (simp (maxSteps := 5000000) -dsimp only [gr0, gr1, gr2, gr3, Nat.reduceEqDiff, Nat.reduceLT, h2a, r2a, h5a, r5a, h12a, h13a, h14a, wrap_nat h hl.2, map_snoc h]; rfl) | (simp (maxSteps := 5000000) -dsimp only [gr0, gr1, gr2, gr3, Nat.reduceEqDiff, Nat.reduceLT, h2a, r2a, h5a, r5a, h12a, h13a, h14a, wrap_nat h hl.2, map_snoc h]; simp; done) | assumption | rfl), by omega⟩ (by first | omega | (simp only; omega))
    · obtain rfl : k = list.length := by omega
      congr 1
      unfold shellL
      rw [if_pos ho, List.take_length]
end Go.Proofs.Ytfjjopfeipggiaa
