/- DERIVED by an AI agent. -/
import Derived.Test.YtmpjajhklilleaaDoorP1
import Derived.Test.YtmpjajhklilleaaDoorQ2
import Derived.Test.YtmpjajhklilleaaDoorQ1
import Derived.Test.YtmpjajhklilleaaDoorA16
/- DERIVED by an AI agent. Plain facts: free faces and collapses, told by the families of faces. No program in sight. -/
namespace Go.Abs
set_option linter.unusedSimpArgs false
set_option linter.unusedVariables false

/-- The members that a set is a proper subset of. -/
def supF (f : Nat → Bool) (s : Nat) : List Nat := (List.range 64).filter fun t => f t && (t &&& s == s) && t != s
def freeB (f : Nat → Bool) (s : Nat) : Bool := (supF f s).length == 1
def rmF (f : Nat → Bool) (s : Nat) : Nat → Bool := fun u => f u && !(u &&& s == s)
def freeL (f : Nat → Bool) : List Nat := (ordN f).filter (freeB f)
def lastL (l : List Nat) : Nat := l.getD (l.length - 1) 0
def stopC (f : Nat → Bool) : Bool := (freeL f).length == 0 || lastL (freeL f) == 0
def colG : Nat → (Nat → Bool) → List Nat → (Nat → Bool) × List Nat
  | 0, f, l => (f, l)
  | n + 1, f, l => if stopC f = true then (f, l) else colG n (rmF f (lastL (freeL f))) (l ++ [lastL (freeL f)])
def cntF (f : Nat → Bool) : Nat := ((List.range 64).filter f).length
theorem colG_stop {f : Nat → Bool} (h : stopC f = true) (l : List Nat) : ∀ n, colG n f l = (f, l) := by
  intro n
  cases n with
  | zero => rfl
  | succ n => rw [colG, if_pos h]
theorem last_free {f : Nat → Bool} (h : stopC f = false) : lastL (freeL f) < 64 ∧ f (lastL (freeL f)) = true ∧ freeB f (lastL (freeL f)) = true ∧ 0 < (freeL f).length ∧ lastL (freeL f) ≠ 0 := by
  unfold stopC at h
  rw [Bool.or_eq_false_iff, beq_eq_false_iff_ne, beq_eq_false_iff_ne] at h
  have hm : lastL (freeL f) ∈ freeL f := getD_mem 0 (by omega)
  obtain ⟨h1, h2⟩ := List.mem_filter.1 hm
  obtain ⟨h3, h4⟩ := mem_ordN.1 h1
  exact ⟨h3, h4, h2, by omega, h.2⟩
theorem cnt_filter {p q : Nat → Bool} (l : List Nat) (hpq : ∀ x ∈ l, q x = true → p x = true) {s : Nat} (hs : s ∈ l) (h1 : p s = true) (h2 : q s = false) : (l.filter q).length < (l.filter p).length := by
  induction l with
  | nil => cases hs
  | cons a l ih =>
    have hle : ∀ (l : List Nat), (∀ x ∈ l, q x = true → p x = true) → (l.filter q).length ≤ (l.filter p).length := by
      intro l
      induction l with
      | nil => intro _; exact Nat.le_refl _
      | cons b l ih =>
        intro h
        have h0 := ih fun x hx => h x (List.mem_cons_of_mem _ hx)
        have hb := h b (List.mem_cons_self ..)
        rw [List.filter_cons, List.filter_cons]
        cases hq : q b with
        | true => rw [hb hq]; simp only [if_true, List.length_cons]; omega
        | false => cases hp : p b <;> simp <;> omega
    rw [List.filter_cons, List.filter_cons]
    rcases List.mem_cons.1 hs with rfl | hs
    · rw [h1, h2]
      have := hle l fun x hx => hpq x (List.mem_cons_of_mem _ hx)
      simp; omega
    · have := ih (fun x hx => hpq x (List.mem_cons_of_mem _ hx)) hs
      have ha := hpq a (List.mem_cons_self ..)
      cases hq : q a with
      | true => rw [ha hq]; simp; omega
      | false => cases hp : p a <;> simp <;> omega
theorem cnt_rm {f : Nat → Bool} {s : Nat} (hs : s < 64) (hf : f s = true) : cntF (rmF f s) < cntF f := by
  refine cnt_filter _ (fun x _ h => ?_) (List.mem_range.2 hs) hf ?_
  · unfold rmF at h; rw [Bool.and_eq_true] at h; exact h.1
  · unfold rmF; rw [hf, Nat.and_self, beq_self_eq_true]; rfl
theorem colG_step {f : Nat → Bool} (h : stopC f = false) (l : List Nat) {n : Nat} (hn : cntF f ≤ n + 1) : colG (n + 1) f l = colG n (rmF f (lastL (freeL f))) (l ++ [lastL (freeL f)]) ∧ cntF (rmF f (lastL (freeL f))) ≤ n := by
  obtain ⟨h1, h2, _⟩ := last_free h
  have := cnt_rm h1 h2
  exact ⟨by rw [colG, if_neg (by rw [h]; decide)], by omega⟩
theorem cnt_pos {f : Nat → Bool} (h : stopC f = false) : 0 < cntF f := by
  obtain ⟨h1, h2, _⟩ := last_free h
  have := cnt_rm h1 h2
  omega
theorem mem_supF {f : Nat → Bool} {s t : Nat} : t ∈ supF f s ↔ t < 64 ∧ f t = true ∧ t &&& s = s ∧ t ≠ s := by
  unfold supF
  simp only [List.mem_filter, List.mem_range, Bool.and_eq_true, beq_iff_eq, bne_iff_ne]
  exact ⟨fun ⟨a, ⟨b, c⟩, d⟩ => ⟨a, b, c, d⟩, fun ⟨a, b, c, d⟩ => ⟨a, ⟨b, c⟩, d⟩⟩
/-- The one that it is a proper subset of. -/
def parF (f : Nat → Bool) (s : Nat) : Nat := (supF f s).getD 0 0
theorem par_of {f : Nat → Bool} {s : Nat} (h : freeB f s = true) : supF f s = [parF f s] := by
  unfold freeB at h
  rw [beq_iff_eq] at h
  match hm : supF f s, h with
  | [a], _ => unfold parF; rw [hm]; rfl
theorem par_mem {f : Nat → Bool} {s : Nat} (h : freeB f s = true) : parF f s < 64 ∧ f (parF f s) = true ∧ parF f s &&& s = s ∧ parF f s ≠ s :=
  mem_supF.1 (by rw [par_of h]; exact List.mem_singleton.2 rfl)
/-- A free face and the one over it, taken away. -/
theorem rm_bits {f : Nat → Bool} {s : Nat} (hs : s < 64) (h : freeB f s = true) {i : Nat} (hi : i < 64) : rmF f s i = (f i && !(i == s || i == parF f s)) := by
  unfold rmF
  cases hf : f i with
  | false => rfl
  | true =>
    rw [Bool.true_and, Bool.true_and]
    congr 1
    obtain ⟨p1, p2, p3, p4⟩ := par_mem h
    rw [Bool.eq_iff_iff, beq_iff_eq, Bool.or_eq_true, beq_iff_eq, beq_iff_eq]
    constructor
    · intro e
      by_cases h0 : i = s
      · exact .inl h0
      · have : i ∈ supF f s := mem_supF.2 ⟨hi, hf, e, h0⟩
        rw [par_of h] at this
        exact .inr (List.mem_singleton.1 this)
    · rintro (rfl | rfl)
      · exact Nat.and_self _
      · exact p3
theorem rm_mask {f : Nat → Bool} {s : Nat} (hs : s < 64) (h : freeB f s = true) : maskF f 64 ^^^ (maskF f 64 &&& (2 ^ s ||| 2 ^ parF f s)) = maskF (rmF f s) 64 := by
  refine Nat.eq_of_testBit_eq fun i => ?_
  rw [Nat.testBit_xor, Nat.testBit_and, Nat.testBit_or, Nat.testBit_two_pow, Nat.testBit_two_pow, maskF_bit, maskF_bit]
  by_cases hi : i < 64
  · rw [decide_eq_true hi, Bool.true_and, Bool.true_and, rm_bits hs h hi]
    have e1 : decide (s = i) = (i == s) := by rw [Bool.eq_iff_iff, decide_eq_true_iff, beq_iff_eq]; exact eq_comm
    have e2 : decide (parF f s = i) = (i == parF f s) := by rw [Bool.eq_iff_iff, decide_eq_true_iff, beq_iff_eq]; exact eq_comm
    rw [e1, e2]
    cases f i <;> cases (i == s || i == parF f s) <;> rfl
  · rw [decide_eq_false hi]; rfl
/-- Every subset of a member is one. -/
def DnF (f : Nat → Bool) : Prop := ∀ s t, f s = true → s &&& t = t → f t = true
theorem dn_rm {f : Nat → Bool} (h : DnF f) (s : Nat) : DnF (rmF f s) := by
  intro u v hu huv
  unfold rmF at hu ⊢
  rw [Bool.and_eq_true, Bool.not_eq_true', beq_eq_false_iff_ne] at hu ⊢
  refine ⟨h u v hu.1 huv, fun e => hu.2 ?_⟩
  rw [← e, ← Nat.and_assoc, huv, e]
theorem dn_any {f : Nat → Bool} (h : DnF f) {t : Nat} (ht : t < 64) : ((List.range 64).any fun s => f s && (s &&& t == t)) = f t := by
  rw [Bool.eq_iff_iff, List.any_eq_true]
  constructor
  · rintro ⟨s, _, hs⟩
    rw [Bool.and_eq_true, beq_iff_eq] at hs
    exact h s t hs.1 hs.2
  · intro hf
    exact ⟨t, List.mem_range.2 ht, by rw [hf, Nat.and_self, beq_self_eq_true]; rfl⟩
theorem freeL_congr {f g : Nat → Bool} (h : ∀ s, s < 64 → f s = g s) : freeL f = freeL g := by
  unfold freeL
  rw [ordN_congr h]
  refine List.filter_congr fun s hs => ?_
  unfold freeB supF
  congr 2
  refine List.filter_congr fun t ht => ?_
  rw [h t (List.mem_range.1 ht)]
theorem extN_congr {f g : Nat → Bool} (h : ∀ s, s < 64 → f s = g s) (b : Bool) : extN f b = extN g b := by
  unfold extN
  rw [ordN_congr h]
  refine List.filter_congr fun s hs => ?_
  unfold extB
  rw [Bool.eq_iff_iff, List.all_eq_true, List.all_eq_true]
  constructor <;> intro hh t ht
  · have := hh t ht; rwa [h t (List.mem_range.1 ht)] at this
  · have := hh t ht; rwa [← h t (List.mem_range.1 ht)] at this
theorem freeL_len (f : Nat → Bool) : (freeL f).length ≤ 448 := Nat.le_trans (List.length_filter_le _ _) (ordN_len f)
theorem supF_congr {f g : Nat → Bool} (h : ∀ s, s < 64 → f s = g s) (s : Nat) : supF f s = supF g s := by
  unfold supF
  refine List.filter_congr fun t ht => ?_
  rw [h t (List.mem_range.1 ht)]
theorem freeB_congr {f g : Nat → Bool} (h : ∀ s, s < 64 → f s = g s) (s : Nat) : freeB f s = freeB g s := by unfold freeB; rw [supF_congr h]
end Go.Abs

namespace Go.Proofs.YtmpjajhklilleaaDoor
open Go.Abs
set_option linter.unusedSimpArgs false
set_option linter.unusedVariables false

/-- The sets on the way that a set is a proper subset of. -/
def supK (f : Nat → Bool) (c : Nat) (k : Nat) : List Nat := (List.range k).filter fun t => f t && (t &&& c == c) && t != c
theorem supK_all (f : Nat → Bool) (c : Nat) : supK f c 64 = supF f c := rfl
theorem supK_yes {f : Nat → Bool} {c k : Nat} (h : (f k && (k &&& c == c) && k != c) = true) : supK f c (k + 1) = supK f c k ++ [k] := by unfold supK; rw [List.range_succ, List.filter_append]; simp [h]
theorem supK_no {f : Nat → Bool} {c k : Nat} (h : (f k && (k &&& c == c) && k != c) = false) : supK f c (k + 1) = supK f c k := by
  unfold supK; rw [List.range_succ, List.filter_append, List.filter_cons, h]; simp
theorem supK_len (f : Nat → Bool) (c : Nat) {k : Nat} (hk : k ≤ 64) : (supK f c k).length ≤ (supF f c).length := by
  have e : List.range 64 = List.range k ++ (List.range (64 - k)).map (k + ·) := by rw [← List.range_add]; congr 1; omega
  unfold supK supF
  rw [e, List.filter_append, List.length_append]; exact Nat.le_add_right _ _
def parI (l : List Nat) : Int := if l.length = 1 then ((l.getD 0 0 : Nat) : Int) else -1
theorem parI_1 (a : Nat) : parI [a] = (a : Int) := rfl
theorem c_impl_freePartner (F c : Nat) (hF : F < 18446744073709551616) (hc : c < 64) :
    AC Tryd.prog 43 [u64 F, int c] (.tup [.im (int (if (supF F.testBit c).length ≤ 1 then parI (supF F.testBit c) else 0)), .im (bool (freeB F.testBit c))]) := by
  refine AC.go (rs := [.tmp 4, .tmp 5]) T_ok mixed Tryd.func43 rfl rfl rfl (by kernel_rfl) fun hl => ?_
  simp (maxSteps := 5000000) -dsimp only [↓gp, gq, reduceCtorEq, Nat.reduceEqDiff, Nat.reduceLT, Nat.reduceLeDiff, Nat.reduceAdd, Nat.reduceMul, Nat.reduceSub, Nat.reduceBEq, Int.reduceToNat, Int.reduceLE, Int.reduceLT, Int.reduceNeg, Nat.reduceMod, sid_ne1, sid_ne2, sid_inj, sid_mod, gT, TK.isInt, TK.agg, Array.toList]
  refine loop_of (fun (k : Nat) s => s.sl 0 = u64 F ∧ s.sl 1 = int c ∧ s.sl 6 = int (parI (supK F.testBit c k)) ∧ s.sl 7 = int k ∧ (k ≤ 64 ∧ (supK F.testBit c k).length ≤ 1)) (fun k => 64 - k) (0) (by refine ⟨?_, ?_, ?_, ?_, ⟨by omega, by simp [supK]⟩⟩ <;> (first | (simp (maxSteps := 5000000) -dsimp only [gr, Nat.reduceEqDiff, Nat.reduceLT, Nat.reduceAdd, Nat.reduceMod, Nat.reduceBEq, sid_mod, sid_ne1, sid_ne2, sid_inj]; first | done | rfl | (simp; done)) | assumption | rfl)) ?_
  intro k sa ⟨h0a, h1a, h6a, h7a, hIa⟩
  obtain ⟨hk, hle⟩ := hIa
  by_cases hk2 : k < 64
  · have hsub : (iandnot .i64 (c : Int) (k : Int) == 0) = (k &&& c == c) := by
      rw [iandnot_nat (by omega) (by omega), Bool.eq_iff_iff, beq_iff_eq, beq_iff_eq]
      have := @xor_and_zero c k
      rw [Nat.and_comm k c]
      omega
    have hne : (((k : Nat) : Int) != (c : Int)) = (k != c) := by
      rw [Bool.eq_iff_iff, bne_iff_ne, bne_iff_ne]; omega
    simp (maxSteps := 5000000) -dsimp only [↓gp, gq, reduceCtorEq, Nat.reduceEqDiff, Nat.reduceLT, Nat.reduceLeDiff, Nat.reduceAdd, Nat.reduceMul, Nat.reduceSub, Nat.reduceBEq, Int.reduceToNat, Int.reduceLE, Int.reduceLT, Int.reduceNeg, Nat.reduceMod, sid_ne1, sid_ne2, sid_inj, sid_mod, gT, TK.isInt, TK.agg, Array.toList, h0a, h1a, h6a, h7a, hne, hsub]
    have hno : (F.testBit k && (k &&& c == c) && k != c) = false → supK F.testBit c (k + 1) = supK F.testBit c k := supK_no
    have hl2 := supK_len F.testBit c (show k + 1 ≤ 64 by omega)
    have hw := wrap_nat hk2 (show 64 ≤ 9223372036854775807 by omega)
    refine ⟨fun _ => ⟨fun h1 => ⟨fun h2 => askK_of (c_impl_hasSet F k hF hk2) ?_, fun h2 => ?_⟩, fun h1 => ?_⟩, fun h => absurd (show (k : Int) < 64 by omega) h⟩
    · simp (maxSteps := 5000000) -dsimp only [↓gp, gq, reduceCtorEq, Nat.reduceEqDiff, Nat.reduceLT, Nat.reduceLeDiff, Nat.reduceAdd, Nat.reduceMul, Nat.reduceSub, Nat.reduceBEq, Int.reduceToNat, Int.reduceLE, Int.reduceLT, Int.reduceNeg, Nat.reduceMod, sid_ne1, sid_ne2, sid_inj, sid_mod, gT, TK.isInt, TK.agg, Array.toList, h0a, h1a, h6a, h7a, hne, hsub]
      refine ⟨fun h3 => ?_, fun h3 => ?_⟩
      · have hy := supK_yes (f := F.testBit) (c := c) (k := k) (by rw [h1, h2, h3]; rfl)
        refine ⟨fun h4 => ?_, fun h4 => ?_⟩
        · have hone : (supK F.testBit c k).length = 1 := by
            unfold parI at h4
            split at h4
            · assumption
            · omega
          have h2l : 2 ≤ (supF F.testBit c).length := by rw [hy, List.length_append, hone] at hl2; exact hl2
          rw [if_neg (by omega)]
          refine ⟨rfl, ?_⟩
          unfold freeB
          exact beq_eq_false_iff_ne.2 (by omega)
        · have hz : supK F.testBit c k = [] := by
            refine List.eq_nil_of_length_eq_zero ?_
            unfold parI at h4
            split at h4
            · omega
            · omega
          rw [hz, List.nil_append] at hy
          exact again_of (k + 1) (by refine ⟨?_, ?_, ?_, ?_, ⟨by omega, by rw [hy]; exact Nat.le_refl _⟩⟩ <;> (first | (simp (maxSteps := 5000000) -dsimp only [gr, Nat.reduceEqDiff, Nat.reduceLT, Nat.reduceAdd, Nat.reduceMod, Nat.reduceBEq, sid_mod, sid_ne1, sid_ne2, sid_inj, h0a, h1a, h6a, h7a, hw, hy, parI_1]; first | done | rfl | (simp; done)) | assumption | rfl)) (by first | omega | (simp only; omega) | (dsimp only; omega) | (show _ < _; simp; omega))
      · have e := hno (by rw [h3]; rfl)
        exact again_of (k + 1) (by refine ⟨?_, ?_, ?_, ?_, ⟨by omega, by rw [e]; exact hle⟩⟩ <;> (first | (simp (maxSteps := 5000000) -dsimp only [gr, Nat.reduceEqDiff, Nat.reduceLT, Nat.reduceAdd, Nat.reduceMod, Nat.reduceBEq, sid_mod, sid_ne1, sid_ne2, sid_inj, h0a, h1a, h6a, h7a, hw, e]; first | done | rfl | (simp; done)) | assumption | rfl)) (by first | omega | (simp only; omega) | (dsimp only; omega) | (show _ < _; simp; omega))
    · have e := hno (by rw [h2]; simp)
      exact again_of (k + 1) (by refine ⟨?_, ?_, ?_, ?_, ⟨by omega, by rw [e]; exact hle⟩⟩ <;> (first | (simp (maxSteps := 5000000) -dsimp only [gr, Nat.reduceEqDiff, Nat.reduceLT, Nat.reduceAdd, Nat.reduceMod, Nat.reduceBEq, sid_mod, sid_ne1, sid_ne2, sid_inj, h0a, h1a, h6a, h7a, hw, e]; first | done | rfl | (simp; done)) | assumption | rfl)) (by first | omega | (simp only; omega) | (dsimp only; omega) | (show _ < _; simp; omega))
    · have e := hno (by rw [h1]; simp)
      exact again_of (k + 1) (by refine ⟨?_, ?_, ?_, ?_, ⟨by omega, by rw [e]; exact hle⟩⟩ <;> (first | (simp (maxSteps := 5000000) -dsimp only [gr, Nat.reduceEqDiff, Nat.reduceLT, Nat.reduceAdd, Nat.reduceMod, Nat.reduceBEq, sid_mod, sid_ne1, sid_ne2, sid_inj, h0a, h1a, h6a, h7a, hw, e]; first | done | rfl | (simp; done)) | assumption | rfl)) (by first | omega | (simp only; omega) | (dsimp only; omega) | (show _ < _; simp; omega))
  · obtain rfl : k = 64 := by omega
    rw [supK_all] at *
    simp (maxSteps := 5000000) -dsimp only [↓gp, gq, reduceCtorEq, Nat.reduceEqDiff, Nat.reduceLT, Nat.reduceLeDiff, Nat.reduceAdd, Nat.reduceMul, Nat.reduceSub, Nat.reduceBEq, Int.reduceToNat, Int.reduceLE, Int.reduceLT, Int.reduceNeg, Nat.reduceMod, sid_ne1, sid_ne2, sid_inj, sid_mod, gT, TK.isInt, TK.agg, Array.toList, h0a, h1a, h6a, h7a]
    refine ⟨fun h => absurd h (by decide), fun _ => ?_⟩
    rw [if_pos hle]
    refine ⟨rfl, ?_⟩
    unfold freeB parI
    split
    · rename_i h; rw [h]; simp
    · rename_i h
      rw [beq_eq_false_iff_ne.2 h]; simp
theorem c_impl_freeIn (F : Nat) (hF : F < 18446744073709551616) : AC Tryd.prog 41 [u64 F] (.fr 3 1 (iL (ofN (freeL F.testBit)))) := by
  refine AC.go (rs := [.tmp 2]) T_ok mixed Tryd.func41 rfl rfl rfl (by kernel_rfl) fun hl => ?_
  simp (maxSteps := 5000000) -dsimp only [↓gp, gq, reduceCtorEq, Nat.reduceEqDiff, Nat.reduceLT, Nat.reduceLeDiff, Nat.reduceAdd, Nat.reduceMul, Nat.reduceSub, Nat.reduceBEq, Int.reduceToNat, Int.reduceLE, Int.reduceLT, Int.reduceNeg, Nat.reduceMod, sid_ne1, sid_ne2, sid_inj, sid_mod, gT, TK.isInt, TK.agg, Array.toList]
  refine askK_of (c_impl_setsIn F hF) ?_
  have hol := ofN_length (ordN F.testBit)
  have holen := ordN_len F.testBit
  have hmem := fun i (hi : i < (ordN F.testBit).length) => (mem_ordN.1 (getD_mem 0 hi)).1
  have hdef : freeL F.testBit = (ordN F.testBit).filter (freeB F.testBit) := rfl
  rw [hdef]
  generalize ordN F.testBit = all at *
  simp (maxSteps := 5000000) -dsimp only [↓gp, gq, reduceCtorEq, Nat.reduceEqDiff, Nat.reduceLT, Nat.reduceLeDiff, Nat.reduceAdd, Nat.reduceMul, Nat.reduceSub, Nat.reduceBEq, Int.reduceToNat, Int.reduceLE, Int.reduceLT, Int.reduceNeg, Nat.reduceMod, sid_ne1, sid_ne2, sid_inj, sid_mod, gT, TK.isInt, TK.agg, Array.toList, hol]
  refine loop_of (fun (za : Nat × Nat) s => match za with | (k, v) => s.sl 0 = u64 F ∧ s.sl 3 = .own 3 v ∧ s.rw 3 = ⟨v, .sli 3 1 false (iL (ofN ((all.take k).filter (freeB F.testBit))))⟩ ∧ s.sl 9 = .own 9 1 ∧ s.rw 9 = ⟨1, .sli 3 1 false (iL (ofN all))⟩ ∧ s.sl 10 = int all.length ∧ s.sl 11 = int k ∧ (k ≤ all.length)) (fun (k, v) => all.length - k) ((0, 1)) (by refine ⟨?_, ?_, ?_, ?_, ?_, ?_, ?_, by omega⟩ <;> (first | (simp (maxSteps := 5000000) -dsimp only [gr, Nat.reduceEqDiff, Nat.reduceLT, Nat.reduceAdd, Nat.reduceMod, Nat.reduceBEq, sid_mod, sid_ne1, sid_ne2, sid_inj, hol]; first | done | rfl | (simp; done)) | assumption | rfl)) ?_
  intro (k, v) sa ⟨h0a, h3a, r3a, h9a, r9a, h10a, h11a, hIa⟩
  have hfl : ((all.take k).filter (freeB F.testBit)).length ≤ k := Nat.le_trans (List.length_filter_le _ _) (by rw [List.length_take]; omega)
  simp (maxSteps := 5000000) -dsimp only [↓gp, gq, reduceCtorEq, Nat.reduceEqDiff, Nat.reduceLT, Nat.reduceLeDiff, Nat.reduceAdd, Nat.reduceMul, Nat.reduceSub, Nat.reduceBEq, Int.reduceToNat, Int.reduceLE, Int.reduceLT, Int.reduceNeg, Nat.reduceMod, sid_ne1, sid_ne2, sid_inj, sid_mod, gT, TK.isInt, TK.agg, Array.toList, h0a, h3a, r3a, h9a, r9a, h10a, h11a, hol]
  refine ⟨fun h => ?_, fun h => ?_⟩
  · have h64 := hmem k h
    rw [ofN_getD h]
    refine ⟨h, h, askK_of (c_impl_freePartner F (all.getD k 0) hF h64) ?_⟩
    have hst : (all.take (k + 1)).filter (freeB F.testBit) = (all.take k).filter (freeB F.testBit) ++ [all.getD k 0].filter (freeB F.testBit) := by rw [take_snoc 0 h, List.filter_append]
    simp (maxSteps := 5000000) -dsimp only [↓gp, gq, reduceCtorEq, Nat.reduceEqDiff, Nat.reduceLT, Nat.reduceLeDiff, Nat.reduceAdd, Nat.reduceMul, Nat.reduceSub, Nat.reduceBEq, Int.reduceToNat, Int.reduceLE, Int.reduceLT, Int.reduceNeg, Nat.reduceMod, sid_ne1, sid_ne2, sid_inj, sid_mod, gT, TK.isInt, TK.agg, Array.toList, h0a, h3a, r3a, h9a, r9a, h10a, h11a, hol, ofN_getD h]
    refine ⟨fun hb => ⟨by rw [ofN_length]; omega, ?_⟩, fun hb => ?_⟩
    · have e : ofN ((all.take (k + 1)).filter (freeB F.testBit)) = ofN ((all.take k).filter (freeB F.testBit)) ++ [((all.getD k 0 : Nat) : Int)] := by rw [hst, ofN_append, List.filter_cons, if_pos hb, List.filter_nil]; rfl
      exact again_of ((k + 1, v + 1)) (by refine ⟨?_, ?_, ?_, ?_, ?_, ?_, ?_, by dsimp only; omega⟩ <;> (first | (simp (maxSteps := 5000000) -dsimp only [gr, Nat.reduceEqDiff, Nat.reduceLT, Nat.reduceAdd, Nat.reduceMod, Nat.reduceBEq, sid_mod, sid_ne1, sid_ne2, sid_inj, h0a, h3a, r3a, h9a, r9a, h10a, h11a, wrap_nat h (show all.length ≤ 9223372036854775807 by omega), e]; first | done | rfl | (simp; done)) | assumption | rfl)) (by first | omega | (simp only; omega) | (dsimp only; omega) | (show _ < _; simp; omega))
    · have e : (all.take (k + 1)).filter (freeB F.testBit) = (all.take k).filter (freeB F.testBit) := by rw [hst, List.filter_cons, if_neg (by rw [hb]; decide), List.filter_nil, List.append_nil]
      exact again_of ((k + 1, v)) (by refine ⟨?_, ?_, ?_, ?_, ?_, ?_, ?_, by dsimp only; omega⟩ <;> (first | (simp (maxSteps := 5000000) -dsimp only [gr, Nat.reduceEqDiff, Nat.reduceLT, Nat.reduceAdd, Nat.reduceMod, Nat.reduceBEq, sid_mod, sid_ne1, sid_ne2, sid_inj, h0a, h3a, r3a, h9a, r9a, h10a, h11a, wrap_nat h (show all.length ≤ 9223372036854775807 by omega), e]; first | done | rfl | (simp; done)) | assumption | rfl)) (by first | omega | (simp only; omega) | (dsimp only; omega) | (show _ < _; simp; omega))
  · have e : k = all.length := by omega
    subst e
    rw [List.take_length]
theorem lastL_ofN {l : List Nat} (h : 0 < l.length) : (ofN l).getD (l.length - 1) 0 = ((lastL l : Nat) : Int) := by
  unfold lastL; exact ofN_getD (by omega)
noncomputable def colF (xs : List Int) : (Nat → Bool) × List Nat := colG 64 (faceB xs) []
theorem cnt_64 (f : Nat → Bool) : cntF f ≤ 64 := by
  have := List.length_filter_le f (List.range 64)
  rw [List.length_range] at this; exact this
theorem mask_u64 (f : Nat → Bool) : maskF f 64 < 18446744073709551616 := by
  have := maskF_lt f 64
  simpa using this
theorem mask_bits (f : Nat → Bool) : ∀ s, s < 64 → (maskF f 64).testBit s = f s := fun s hs => by rw [maskF_bit, decide_eq_true hs, Bool.true_and]
theorem iandnot_u {a b : Nat} (ha : a < 18446744073709551616) (hb : b < 18446744073709551616) : iandnot .u64 (a : Int) (b : Int) = ((a ^^^ (a &&& b) : Nat) : Int) := by
  have e : ∀ {x : Nat}, x < 18446744073709551616 → (BitVec.ofInt 64 (x : Int)).toNat = x := fun {x} hx => by
    rw [BitVec.toNat_ofInt]; omega
  have h : BitVec.ofInt 64 (a : Int) &&& ~~~ BitVec.ofInt 64 (b : Int) = BitVec.ofInt 64 (a : Int) ^^^ (BitVec.ofInt 64 (a : Int) &&& BitVec.ofInt 64 (b : Int)) := by
    ext i hi
    simp only [BitVec.getElem_and, BitVec.getElem_not, BitVec.getElem_xor]
    cases (BitVec.ofInt 64 (a : Int))[i] <;> cases (BitVec.ofInt 64 (b : Int))[i] <;> rfl
  show IntKind.u64.wrap (((BitVec.ofInt 64 (a : Int) &&& ~~~ BitVec.ofInt 64 (b : Int)).toNat : Nat) : Int) = _
  rw [h, BitVec.toNat_xor, BitVec.toNat_and, e ha, e hb]
  have h1 : a &&& b < 2 ^ 64 := Nat.and_lt_two_pow _ (by simpa using hb)
  have h2 : a ^^^ (a &&& b) < 2 ^ 64 := Nat.xor_lt_two_pow (by simpa using ha) h1
  exact uwrap_id (by simpa using h2)
theorem c_impl_CollapseAll (n : Int) (xs : List Int) :
    AC Tryd.prog 25 [.ag [int n, ints xs]] (.tup [.ag [.im (int (if isCx n xs = true then n else 0)), .fr 3 1 (iL (if isCx n xs = true then ofN (extN (colF xs).1 true) else []))], .fr 3 1 (iL (if isCx n xs = true then ofN (colF xs).2 else [])), .im (bool (isCx n xs))]) := by
  refine AC.go (rs := [.cell 2 31, .tmp 3, .tmp 4]) T_ok mixed Tryd.func25 rfl rfl rfl (by kernel_rfl) fun hl => ?_
  simp (maxSteps := 5000000) -dsimp only [↓gp, gq, reduceCtorEq, Nat.reduceEqDiff, Nat.reduceLT, Nat.reduceLeDiff, Nat.reduceAdd, Nat.reduceMul, Nat.reduceSub, Nat.reduceBEq, Int.reduceToNat, Int.reduceLE, Int.reduceLT, Int.reduceNeg, Nat.reduceMod, sid_ne1, sid_ne2, sid_inj, sid_mod, gT, TK.isInt, TK.agg, Array.toList]
  refine askK_of (c_impl_IsComplex n xs) ?_
  simp (maxSteps := 5000000) -dsimp only [↓gp, gq, reduceCtorEq, Nat.reduceEqDiff, Nat.reduceLT, Nat.reduceLeDiff, Nat.reduceAdd, Nat.reduceMul, Nat.reduceSub, Nat.reduceBEq, Int.reduceToNat, Int.reduceLE, Int.reduceLT, Int.reduceNeg, Nat.reduceMod, sid_ne1, sid_ne2, sid_inj, sid_mod, gT, TK.isInt, TK.agg, Array.toList]
  refine ⟨fun hc => ?_, fun hc => ?_⟩
  · have hc : isCx n xs = false := by simpa using hc
    rw [hc]; exact ⟨rfl, rfl, rfl, rfl⟩
  · have hc : isCx n xs = true := by simpa using hc
    rw [hc]
    refine askK_of (c_impl_facesIn n xs (cx_ok hc)) ?_
    simp (maxSteps := 5000000) -dsimp only [↓gp, gq, reduceCtorEq, Nat.reduceEqDiff, Nat.reduceLT, Nat.reduceLeDiff, Nat.reduceAdd, Nat.reduceMul, Nat.reduceSub, Nat.reduceBEq, Int.reduceToNat, Int.reduceLE, Int.reduceLT, Int.reduceNeg, Nat.reduceMod, sid_ne1, sid_ne2, sid_inj, sid_mod, gT, TK.isInt, TK.agg, Array.toList]
    refine loop_of (fun (za : (Nat → Bool) × List Nat × Nat × Nat) s => match za with | (f, l, m, v) => s.sl 1 = .ref 1 1 0 ∧ s.rw 1 = ⟨1, .box 31 [int n, ints xs]⟩ ∧ s.sl 2 = .ref 2 1 0 ∧ s.rw 2 = ⟨1, .box 31 [int 0, .v (.slice none 0 0)]⟩ ∧ s.sl 5 = u64 (maskF f 64 : Nat) ∧ s.sl 6 = .own 6 v ∧ s.rw 6 = ⟨v, .sli 3 1 false (iL (ofN l))⟩ ∧ (colG m f l = colF xs ∧ cntF f ≤ m ∧ l.length + m ≤ 64)) (fun (f, l, m, v) => m) ((faceB xs, [], 64, 1)) (by refine ⟨?_, ?_, ?_, ?_, ?_, ?_, ?_, ⟨rfl, cnt_64 _, by simp⟩⟩ <;> (first | (simp (maxSteps := 5000000) -dsimp only [gr, Nat.reduceEqDiff, Nat.reduceLT, Nat.reduceAdd, Nat.reduceMod, Nat.reduceBEq, sid_mod, sid_ne1, sid_ne2, sid_inj]; first | done | rfl | (simp; done)) | assumption | rfl)) ?_
    intro (f, l, m, v) sa ⟨h1a, r1a, h2a, r2a, h5a, h6a, r6a, hIa⟩
    obtain ⟨hcol, hcnt, hlen⟩ := hIa
    have hfr : freeL (maskF f 64).testBit = freeL f := freeL_congr (mask_bits f)
    have hfl := freeL_len f
    simp (maxSteps := 5000000) -dsimp only [↓gp, gq, reduceCtorEq, Nat.reduceEqDiff, Nat.reduceLT, Nat.reduceLeDiff, Nat.reduceAdd, Nat.reduceMul, Nat.reduceSub, Nat.reduceBEq, Int.reduceToNat, Int.reduceLE, Int.reduceLT, Int.reduceNeg, Nat.reduceMod, sid_ne1, sid_ne2, sid_inj, sid_mod, gT, TK.isInt, TK.agg, Array.toList, h1a, r1a, h2a, r2a, h5a, h6a, r6a]
    refine askK_of (c_impl_freeIn (maskF f 64) (mask_u64 f)) ?_
    rw [hfr]
    have hol := ofN_length (freeL f)
    have hst := colG_stop (f := f)
    have hend : ∀ q : Prop, stopC f = true → (colG m f l = (f, l)) := fun _ h => hst h l m
    have hext : extN (maskF f 64).testBit true = extN f true := extN_congr (mask_bits f) true
    by_cases hz0 : (freeL f).length = 0
    · have hs : stopC f = true := by unfold stopC; rw [hz0]; rfl
      have he := hst hs l m
      rw [hcol] at he
      simp (maxSteps := 5000000) -dsimp only [↓gp, gq, reduceCtorEq, Nat.reduceEqDiff, Nat.reduceLT, Nat.reduceLeDiff, Nat.reduceAdd, Nat.reduceMul, Nat.reduceSub, Nat.reduceBEq, Int.reduceToNat, Int.reduceLE, Int.reduceLT, Int.reduceNeg, Nat.reduceMod, sid_ne1, sid_ne2, sid_inj, sid_mod, gT, TK.isInt, TK.agg, Array.toList, h1a, r1a, h2a, r2a, h5a, h6a, r6a, hol, hz0, show (((0 : Nat) : Int) == 0) = true from rfl]
      refine askK_of (c_impl_complexOf n (maskF f 64) (mask_u64 f)) ?_
      rw [hext, he]
      simp (maxSteps := 5000000) -dsimp only [↓gp, gq, reduceCtorEq, Nat.reduceEqDiff, Nat.reduceLT, Nat.reduceLeDiff, Nat.reduceAdd, Nat.reduceMul, Nat.reduceSub, Nat.reduceBEq, Int.reduceToNat, Int.reduceLE, Int.reduceLT, Int.reduceNeg, Nat.reduceMod, sid_ne1, sid_ne2, sid_inj, sid_mod, gT, TK.isInt, TK.agg, Array.toList, h1a, r1a, h2a, r2a, h5a, h6a, r6a]
    · have hw1 : IntKind.i64.wrap (((freeL f).length : Int) - 1) = (((freeL f).length - 1 : Nat) : Int) := by rw [wrap_id (by omega) (by omega)]; omega
      have hne : (((freeL f).length : Int) == 0) = false := beq_eq_false_iff_ne.2 (by omega)
      have hlast := lastL_ofN (l := freeL f) (by omega)
      simp (maxSteps := 5000000) -dsimp only [↓gp, gq, reduceCtorEq, Nat.reduceEqDiff, Nat.reduceLT, Nat.reduceLeDiff, Nat.reduceAdd, Nat.reduceMul, Nat.reduceSub, Nat.reduceBEq, Int.reduceToNat, Int.reduceLE, Int.reduceLT, Int.reduceNeg, Nat.reduceMod, sid_ne1, sid_ne2, sid_inj, sid_mod, gT, TK.isInt, TK.agg, Array.toList, h1a, r1a, h2a, r2a, h5a, h6a, r6a, hol, hw1, hne, Int.toNat_natCast, hlast]
      refine ⟨by omega, by omega, fun h0 => ?_, fun h0 => ?_⟩
      · have hs : stopC f = true := by
          unfold stopC
          have : lastL (freeL f) = 0 := by have := beq_iff_eq.1 h0; omega
          rw [this]; simp
        have he := hst hs l m
        rw [hcol] at he
        refine askK_of (c_impl_complexOf n (maskF f 64) (mask_u64 f)) ?_
        rw [hext, he]
        simp (maxSteps := 5000000) -dsimp only [↓gp, gq, reduceCtorEq, Nat.reduceEqDiff, Nat.reduceLT, Nat.reduceLeDiff, Nat.reduceAdd, Nat.reduceMul, Nat.reduceSub, Nat.reduceBEq, Int.reduceToNat, Int.reduceLE, Int.reduceLT, Int.reduceNeg, Nat.reduceMod, sid_ne1, sid_ne2, sid_inj, sid_mod, gT, TK.isInt, TK.agg, Array.toList, h1a, r1a, h2a, r2a, h5a, h6a, r6a]
      · have hs : stopC f = false := by
          unfold stopC
          rw [Bool.or_eq_false_iff, beq_eq_false_iff_ne, beq_eq_false_iff_ne]
          refine ⟨hz0, fun e => ?_⟩
          rw [e] at h0; simp at h0
        obtain ⟨c1, c2, c3, c4, c5⟩ := last_free hs
        obtain ⟨p1, p2, p3, p4⟩ := par_mem c3
        have hpos := cnt_pos hs
        obtain ⟨m', rfl⟩ : ∃ m', m = m' + 1 := ⟨m - 1, by omega⟩
        obtain ⟨hstep, hcnt'⟩ := colG_step hs l hcnt
        generalize hsv : lastL (freeL f) = sv at *
        refine ⟨by omega, by omega, askK_of (c_impl_freePartner (maskF f 64) sv (mask_u64 f) c1) ?_⟩
        rw [supF_congr (mask_bits f), freeB_congr (mask_bits f), par_of c3]
        have hval : (if [parF f sv].length ≤ 1 then parI [parF f sv] else 0) = ((parF f sv : Nat) : Int) := rfl
        rw [hval]
        have hu1 : IntKind.u64.wrap (sv : Int) = (sv : Int) := uwrap_id (by omega)
        have hu2 : IntKind.u64.wrap (parF f sv : Int) = (parF f sv : Int) := uwrap_id (by omega)
        have k1 : (2 : Nat) ^ sv < 2 ^ 64 := Nat.pow_lt_pow_right (by omega) (by omega)
        have k2 : (2 : Nat) ^ parF f sv < 2 ^ 64 := Nat.pow_lt_pow_right (by omega) (by omega)
        have k3 : 2 ^ sv ||| 2 ^ parF f sv < 2 ^ 64 := Nat.or_lt_two_pow k1 k2
        have hx : iandnot .u64 (maskF f 64 : Nat) (ior .u64 (ishl .u64 1 (sv : Int)) (ishl .u64 1 (parF f sv : Int))) = ((maskF (rmF f sv) 64 : Nat) : Int) := by
          rw [ishl_u (by omega), ishl_u (by omega), ior_u (by simpa using k1) (by simpa using k2), iandnot_u (mask_u64 f) (by simpa using k3), rm_mask c1 c3]
        simp (maxSteps := 5000000) -dsimp only [↓gp, gq, reduceCtorEq, Nat.reduceEqDiff, Nat.reduceLT, Nat.reduceLeDiff, Nat.reduceAdd, Nat.reduceMul, Nat.reduceSub, Nat.reduceBEq, Int.reduceToNat, Int.reduceLE, Int.reduceLT, Int.reduceNeg, Nat.reduceMod, sid_ne1, sid_ne2, sid_inj, sid_mod, gT, TK.isInt, TK.agg, Array.toList, h1a, r1a, h2a, r2a, h5a, h6a, r6a, hol, hw1, hne, Int.toNat_natCast, hlast, hu1, hu2, hx]
        have e2 : ofN (l ++ [sv]) = ofN l ++ [((sv : Nat) : Int)] := ofN_append l [sv]
        refine ⟨by rw [ofN_length]; omega, again_of ((rmF f sv, l ++ [sv], m', v + 1)) (by refine ⟨?_, ?_, ?_, ?_, ?_, ?_, ?_, ⟨by rw [← hstep]; exact hcol, hcnt', by show (l ++ [sv]).length + m' ≤ 64; rw [List.length_append, List.length_singleton]; omega⟩⟩ <;> (first | (simp (maxSteps := 5000000) -dsimp only [gr, Nat.reduceEqDiff, Nat.reduceLT, Nat.reduceAdd, Nat.reduceMod, Nat.reduceBEq, sid_mod, sid_ne1, sid_ne2, sid_inj, h1a, r1a, h2a, r2a, h5a, h6a, r6a, hu1, hu2, hx, e2]; first | done | rfl | (simp; done)) | assumption | rfl)) (by first | omega | (simp only; omega) | (dsimp only; omega) | (show _ < _; simp; omega))⟩
end Go.Proofs.YtmpjajhklilleaaDoor

namespace Go.Proofs.YtmpjajhklilleaaDoor
open Go.Abs
set_option linter.unusedSimpArgs false
set_option linter.unusedVariables false

/-- The greatest sets of a family within n points are a complex. -/
theorem ext_cx {m : Nat} (h1 : 1 ≤ m) (hm : m ≤ 6) {f : Nat → Bool} (hf : ∀ s, s < 64 → f s = true → s < 2 ^ m) : isCx (m : Int) (ofN (extN f true)) = true := by
  refine isCx_yes ⟨(by omega : (1 : Int) ≤ (m : Int)), (by omega : (m : Int) ≤ 6), fun k hk2 => ?_⟩
  rw [ofN_length] at hk2
  have hpw := extN_pw f true
  have hmem := fun i (hi : i < (extN f true).length) => mem_extN.1 (getD_mem 0 hi)
  generalize extN f true = ys at *
  have hbef : ∀ i j, i < j → j < ys.length → befN (ys.getD i 0) (ys.getD j 0) := fun i j hij hj => by
    have := List.pairwise_iff_getElem.1 hpw i j (by omega) hj hij
    have a : ys.getD i 0 = ys[i]'(by omega) := by simp [List.getD, show i < ys.length by omega]
    have b : ys.getD j 0 = ys[j] := by simp [List.getD, hj]
    rw [a, b]; exact this
  refine ⟨?_, fun h0 => ?_, fun i hi => ?_⟩
  · have h1 := hmem k hk2
    have h2 := hf _ h1.1.1 h1.1.2
    rw [ofN_getD hk2]
    unfold inSet
    rw [decide_eq_true_iff]
    refine ⟨by omega, by omega, by omega, ?_⟩
    rw [pow_nat]; exact_mod_cast h2
  · rw [ofN_getD hk2, ofN_getD (by omega)]
    have hb := hbef (k - 1) k (by omega) hk2
    have := (hmem k hk2).1.1
    have := (hmem (k - 1) (by omega)).1.1
    unfold befS
    unfold befN at hb
    rw [szOf_nat (by omega), szOf_nat (by omega)]
    simp only [Bool.and_eq_true, decide_eq_true_iff]
    refine ⟨by omega, by omega, ?_⟩
    split
    · rw [decide_eq_true_iff]; omega
    · rw [decide_eq_true_iff]; omega
  · have hlti := (hmem i (by omega)).1.1
    have hltk := (hmem k hk2).1
    rw [ofN_getD hk2, ofN_getD (by omega), iand_nat (by omega) (by omega)]
    intro e
    have := extB_iff'.1 (hmem i (by omega)).2 (ys.getD k 0) hltk.1 hltk.2 (by omega)
    have hb := hbef i k hi hk2
    rw [this] at hb
    exact befN_irrefl hb
end Go.Proofs.YtmpjajhklilleaaDoor

namespace Go.Proofs.YtmpjajhklilleaaDoor
open Go.Abs
set_option linter.unusedSimpArgs false
set_option linter.unusedVariables false

theorem nd_bef {l : List Nat} (h : l.Pairwise befN) : l.Nodup := h.imp fun {a b} hab e => by subst e; exact befN_irrefl hab
theorem eq_bef {a b : List Nat} (ha : a.Pairwise befN) (hb : b.Pairwise befN) (h : ∀ s, s ∈ a ↔ s ∈ b) : a = b :=
  List.Perm.eq_of_pairwise (fun x y _ _ h1 h2 => by unfold befN at h1 h2; omega) ha hb ((List.perm_ext_iff_of_nodup (nd_bef ha) (nd_bef hb)).2 h)
theorem ordN_perm (f : Nat → Bool) : (ordN f).Perm ((List.range 64).filter f) :=
  (List.perm_ext_iff_of_nodup (nd_bef (ordN_pw f)) (List.Pairwise.filter _ List.nodup_range)).2 fun s => by
    rw [mem_ordN, List.mem_filter, List.mem_range]
theorem sup_len (f : Nat → Bool) (c : Nat) : ((ordN f).filter fun t => (t &&& c == c) && t != c).length = (supF f c).length := by
  have h := ((ordN_perm f).filter fun t => (t &&& c == c) && t != c).length_eq
  rw [h, List.filter_filter]
  unfold supF
  congr 1
  refine List.filter_congr fun t _ => ?_
  cases f t <;> simp
/-- A complex is told by its faces. -/
theorem cx_ext {n : Int} {xs : List Int} (h : isCx n xs = true) : xs = ofN (extN (faceB xs) true) := by
  have hp := isCx_iff.1 h
  have hok := cx_ok h
  have e0 : ofN (xs.map Int.toNat) = xs := by
    unfold ofN
    rw [List.map_map]
    have : ∀ x ∈ xs, ((fun s : Nat => (s : Int)) ∘ Int.toNat) x = id x := fun x hx => by
      have := hok x hx
      show ((x.toNat : Nat) : Int) = x
      omega
    rw [List.map_congr_left this, List.map_id]
  have hpw : (xs.map Int.toNat).Pairwise befN := by
    refine List.pairwise_iff_getElem.2 fun i j hi hj hij => ?_
    have hi' : i < xs.length := by simpa using hi
    have hj' : j < xs.length := by simpa using hj
    have hs := cx_sorted hp j i hij hj'
    rw [getD_at 0 hi', getD_at 0 hj'] at hs
    have a := hok _ (List.getElem_mem hi')
    have b := hok _ (List.getElem_mem hj')
    rw [List.getElem_map, List.getElem_map]
    generalize xs[i] = x at *
    generalize xs[j] = y at *
    unfold befS at hs
    rw [szOf_pop a, szOf_pop b] at hs
    simp only [Bool.and_eq_true, decide_eq_true_iff] at hs
    obtain ⟨_, _, hs⟩ := hs
    unfold befN
    split at hs
    · rw [decide_eq_true_iff] at hs; omega
    · rw [decide_eq_true_iff] at hs; omega
  have key : xs.map Int.toNat = extN (faceB xs) true := by
    refine eq_bef hpw (extN_pw _ _) fun s => ?_
    rw [mem_extN]
    have hfb : ∀ t, faceB xs t = true ↔ ∃ x ∈ xs, x.toNat &&& t = t := fun t => by
      unfold faceB; rw [List.any_eq_true]
      exact ⟨fun ⟨x, h1, h2⟩ => ⟨x, h1, by simpa using h2⟩, fun ⟨x, h1, h2⟩ => ⟨x, h1, by simpa using h2⟩⟩
    have hinc : ∀ x ∈ xs, ∀ y ∈ xs, x.toNat &&& y.toNat = x.toNat → x = y := fun x hx y hy hxy => by
      obtain ⟨i, hi, rfl⟩ := mem_getD 0 hx
      obtain ⟨j, hj, rfl⟩ := mem_getD 0 hy
      rcases Nat.lt_trichotomy i j with hij | hij | hij
      · have := (hp.2.2 j hj).2.2 i hij
        have a := hok _ (getD_mem 0 hi)
        have b := hok _ (getD_mem 0 hj)
        refine absurd ?_ this
        have e1 : xs.getD i 0 = (((xs.getD i 0).toNat : Nat) : Int) := by omega
        have e2 : xs.getD j 0 = (((xs.getD j 0).toNat : Nat) : Int) := by omega
        rw [e1, e2, iand_nat (by omega) (by omega), hxy]
      · rw [hij]
      · have hs := cx_sorted hp i j hij hi
        have a := hok _ (getD_mem 0 hi)
        have b := hok _ (getD_mem 0 hj)
        by_cases hne : xs.getD i 0 = xs.getD j 0
        · exact hne
        · have := pop_sub (s := (xs.getD j 0).toNat) (t := (xs.getD i 0).toNat) (by omega) (by omega) hxy (by omega)
          unfold befS at hs
          rw [szOf_pop a, szOf_pop b] at hs
          simp only [Bool.and_eq_true, decide_eq_true_iff] at hs
          obtain ⟨_, _, hs⟩ := hs
          split at hs
          · rw [decide_eq_true_iff] at hs; omega
          · rw [decide_eq_true_iff] at hs; omega
    constructor
    · intro hs
      obtain ⟨x, hx, rfl⟩ := List.mem_map.1 hs
      have a := hok x hx
      refine ⟨⟨by omega, (hfb _).2 ⟨x, hx, Nat.and_self _⟩⟩, extB_iff'.2 fun t ht hft hxt => ?_⟩
      obtain ⟨y, hy, hyt⟩ := (hfb t).1 hft
      have hxy : x.toNat &&& y.toNat = x.toNat := by
        rw [← hxt, Nat.and_assoc, Nat.and_comm t, hyt]
      have := hinc x hx y hy hxy
      subst this
      exact hyt.symm.trans hxt
    · rintro ⟨⟨h64, hf⟩, he⟩
      obtain ⟨y, hy, hys⟩ := (hfb s).1 hf
      have b := hok y hy
      have := extB_iff'.1 he y.toNat (by omega) ((hfb _).2 ⟨y, hy, Nat.and_self _⟩) (by rw [Nat.and_comm]; exact hys)
      rw [← this]; exact List.mem_map.2 ⟨y, hy, rfl⟩
  rw [← key, e0]
theorem c_spec_l17Above (ys : List Nat) (c : Nat) (hy : ∀ g ∈ ys, g < 64) (hc : c < 64) (hN : ys.length ≤ 1000000) : AC Tryd.prog 62 [ints (ofN ys), int c] (.fr 3 1 (iL (ofN (ys.filter fun t => (t &&& c == c) && t != c)))) := by
  refine AC.go (rs := [.tmp 4]) T_ok mixed Tryd.func62 rfl rfl rfl (by kernel_rfl) fun hl => ?_
  simp only [lens_cons, lens_nil, and_true, lens2_v, lens2_iL, true_and, ofN_length] at hl
  have hol := ofN_length ys
  simp (maxSteps := 5000000) -dsimp only [↓gp, gq, reduceCtorEq, Nat.reduceEqDiff, Nat.reduceLT, Nat.reduceLeDiff, Nat.reduceAdd, Nat.reduceMul, Nat.reduceSub, Nat.reduceBEq, Int.reduceToNat, Int.reduceLE, Int.reduceLT, Int.reduceNeg, Nat.reduceMod, sid_ne1, sid_ne2, sid_inj, sid_mod, gT, TK.isInt, TK.agg, Array.toList]
  refine loop_of (fun (za : Nat × Nat) s => match za with | (k, v) => s.sl 0 = ints (ofN ys) ∧ s.sl 1 = int c ∧ s.sl 5 = .own 7 v ∧ s.rw 7 = ⟨v, .sli 3 1 false (iL (ofN ((ys.take k).filter fun t => (t &&& c == c) && t != c)))⟩ ∧ s.sl 6 = int k ∧ (k ≤ ys.length ∧ ys.length ≤ 1000000)) (fun (k, v) => ys.length - k) ((0, 1)) (by refine ⟨?_, ?_, ?_, ?_, ?_, ⟨by omega, hN⟩⟩ <;> (first | (simp (maxSteps := 5000000) -dsimp only [gr, Nat.reduceEqDiff, Nat.reduceLT, Nat.reduceAdd, Nat.reduceMod, Nat.reduceBEq, sid_mod, sid_ne1, sid_ne2, sid_inj]; first | done | rfl | (simp; done)) | assumption | rfl)) ?_
  intro (k, v) sa ⟨h0a, h1a, h5a, r7a, h6a, hIa⟩
  obtain ⟨hk, _⟩ := hIa
  have hfl : ((ys.take k).filter fun t => (t &&& c == c) && t != c).length ≤ k := Nat.le_trans (List.length_filter_le _ _) (by rw [List.length_take]; omega)
  generalize hpq : (fun t : Nat => (t &&& c == c) && t != c) = q at *
  simp (maxSteps := 5000000) -dsimp only [↓gp, gq, reduceCtorEq, Nat.reduceEqDiff, Nat.reduceLT, Nat.reduceLeDiff, Nat.reduceAdd, Nat.reduceMul, Nat.reduceSub, Nat.reduceBEq, Int.reduceToNat, Int.reduceLE, Int.reduceLT, Int.reduceNeg, Nat.reduceMod, sid_ne1, sid_ne2, sid_inj, sid_mod, gT, TK.isInt, TK.agg, Array.toList, h0a, h1a, h5a, r7a, h6a, hol]
  refine ⟨fun h => ?_, fun h => ?_⟩
  · have hg := hy _ (getD_mem 0 h)
    have hqk : q (ys.getD k 0) = ((ys.getD k 0 &&& c == c) && ys.getD k 0 != c) := by rw [← hpq]
    have h1 : (iand .i64 ((ys.getD k 0 : Nat) : Int) (c : Int) == (c : Int)) = (ys.getD k 0 &&& c == c) := by
      rw [iand_nat (by omega) (by omega), Bool.eq_iff_iff, beq_iff_eq, beq_iff_eq]; omega
    have h2 : (((ys.getD k 0 : Nat) : Int) != (c : Int)) = (ys.getD k 0 != c) := by
      rw [Bool.eq_iff_iff, bne_iff_ne, bne_iff_ne]; omega
    have hw := wrap_nat h (show ys.length ≤ 9223372036854775807 by omega)
    have hst : (ys.take (k + 1)).filter q = (ys.take k).filter q ++ [ys.getD k 0].filter q := by rw [take_snoc 0 h, List.filter_append]
    have hyes : q (ys.getD k 0) = true → ofN ((ys.take (k + 1)).filter q) = ofN ((ys.take k).filter q) ++ [((ys.getD k 0 : Nat) : Int)] := fun hb => by rw [hst, ofN_append, List.filter_cons, if_pos hb, List.filter_nil]; rfl
    have hno : q (ys.getD k 0) = false → (ys.take (k + 1)).filter q = (ys.take k).filter q := fun hb => by rw [hst, List.filter_cons, if_neg (by rw [hb]; decide), List.filter_nil, List.append_nil]
    rw [ofN_getD h, h1]
    refine ⟨h, h, fun e1 => ?_, fun e1 => ?_⟩
    · rw [h2]
      refine ⟨h, h, fun e2 => ?_, fun e2 => ?_⟩
      · have e := hyes (by rw [hqk, e1, e2]; rfl)
        refine ⟨h, h, by rw [ofN_length]; omega, again_of ((k + 1, v + 1)) (by refine ⟨?_, ?_, ?_, ?_, ?_, ⟨by dsimp only; omega, by omega⟩⟩ <;> (first | (simp (maxSteps := 5000000) -dsimp only [gr, Nat.reduceEqDiff, Nat.reduceLT, Nat.reduceAdd, Nat.reduceMod, Nat.reduceBEq, sid_mod, sid_ne1, sid_ne2, sid_inj, h0a, h1a, h5a, r7a, h6a, hw, e]; first | done | rfl | (simp; done)) | assumption | rfl)) (by first | omega | (simp only; omega) | (dsimp only; omega) | (show _ < _; simp; omega))⟩
      · have e := hno (by rw [hqk, e2]; simp)
        exact again_of ((k + 1, v)) (by refine ⟨?_, ?_, ?_, ?_, ?_, ⟨by dsimp only; omega, by omega⟩⟩ <;> (first | (simp (maxSteps := 5000000) -dsimp only [gr, Nat.reduceEqDiff, Nat.reduceLT, Nat.reduceAdd, Nat.reduceMod, Nat.reduceBEq, sid_mod, sid_ne1, sid_ne2, sid_inj, h0a, h1a, h5a, r7a, h6a, hw, e]; first | done | rfl | (simp; done)) | assumption | rfl)) (by first | omega | (simp only; omega) | (dsimp only; omega) | (show _ < _; simp; omega))
    · have e := hno (by rw [hqk, e1]; rfl)
      exact again_of ((k + 1, v)) (by refine ⟨?_, ?_, ?_, ?_, ?_, ⟨by dsimp only; omega, by omega⟩⟩ <;> (first | (simp (maxSteps := 5000000) -dsimp only [gr, Nat.reduceEqDiff, Nat.reduceLT, Nat.reduceAdd, Nat.reduceMod, Nat.reduceBEq, sid_mod, sid_ne1, sid_ne2, sid_inj, h0a, h1a, h5a, r7a, h6a, hw, e]; first | done | rfl | (simp; done)) | assumption | rfl)) (by first | omega | (simp only; omega) | (dsimp only; omega) | (show _ < _; simp; omega))
  · have e : k = ys.length := by omega
    subst e
    rw [List.take_length]
theorem c_spec_FreeFaces (n : Int) (xs : List Int) : AC Tryd.prog 36 [.ag [int n, ints xs]] (.fr 3 1 (iL (ofN (freeL (facF n xs))))) := by
  refine AC.go (rs := [.tmp 2]) T_ok mixed Tryd.func36 rfl rfl rfl (by kernel_rfl) fun hl => ?_
  simp (maxSteps := 5000000) -dsimp only [↓gp, gq, reduceCtorEq, Nat.reduceEqDiff, Nat.reduceLT, Nat.reduceLeDiff, Nat.reduceAdd, Nat.reduceMul, Nat.reduceSub, Nat.reduceBEq, Int.reduceToNat, Int.reduceLE, Int.reduceLT, Int.reduceNeg, Nat.reduceMod, sid_ne1, sid_ne2, sid_inj, sid_mod, gT, TK.isInt, TK.agg, Array.toList]
  refine askK_of (c_spec_FacesOf n xs) ?_
  have hol := ofN_length (ordN (facF n xs))
  have holen := ordN_len (facF n xs)
  have hmem := fun i (hi : i < (ordN (facF n xs)).length) => (mem_ordN.1 (getD_mem 0 hi)).1
  have hmem2 : ∀ g ∈ ordN (facF n xs), g < 64 := fun g hg => (mem_ordN.1 hg).1
  have hfr : ∀ c, (((ordN (facF n xs)).filter fun t => (t &&& c == c) && t != c).length == 1) = freeB (facF n xs) c := fun c => by rw [sup_len]; rfl
  have hdef : freeL (facF n xs) = (ordN (facF n xs)).filter (freeB (facF n xs)) := rfl
  rw [hdef]
  generalize freeB (facF n xs) = q at *
  generalize ordN (facF n xs) = all at *
  simp (maxSteps := 5000000) -dsimp only [↓gp, gq, reduceCtorEq, Nat.reduceEqDiff, Nat.reduceLT, Nat.reduceLeDiff, Nat.reduceAdd, Nat.reduceMul, Nat.reduceSub, Nat.reduceBEq, Int.reduceToNat, Int.reduceLE, Int.reduceLT, Int.reduceNeg, Nat.reduceMod, sid_ne1, sid_ne2, sid_inj, sid_mod, gT, TK.isInt, TK.agg, Array.toList]
  refine loop_of (fun (za : Nat × Nat) s => match za with | (k, v) => s.sl 3 = .own 6 v ∧ s.rw 6 = ⟨v, .sli 3 1 false (iL (ofN ((all.take k).filter q)))⟩ ∧ s.sl 4 = .own 8 1 ∧ s.rw 8 = ⟨1, .sli 3 1 false (iL (ofN all))⟩ ∧ s.sl 5 = int k ∧ (k ≤ all.length)) (fun (k, v) => all.length - k) ((0, 1)) (by refine ⟨?_, ?_, ?_, ?_, ?_, by omega⟩ <;> (first | (simp (maxSteps := 5000000) -dsimp only [gr, Nat.reduceEqDiff, Nat.reduceLT, Nat.reduceAdd, Nat.reduceMod, Nat.reduceBEq, sid_mod, sid_ne1, sid_ne2, sid_inj]; first | done | rfl | (simp; done)) | assumption | rfl)) ?_
  intro (k, v) sa ⟨h3a, r6a, h4a, r8a, h5a, hIa⟩
  have hfl : ((all.take k).filter q).length ≤ k := Nat.le_trans (List.length_filter_le _ _) (by rw [List.length_take]; omega)
  simp (maxSteps := 5000000) -dsimp only [↓gp, gq, reduceCtorEq, Nat.reduceEqDiff, Nat.reduceLT, Nat.reduceLeDiff, Nat.reduceAdd, Nat.reduceMul, Nat.reduceSub, Nat.reduceBEq, Int.reduceToNat, Int.reduceLE, Int.reduceLT, Int.reduceNeg, Nat.reduceMod, sid_ne1, sid_ne2, sid_inj, sid_mod, gT, TK.isInt, TK.agg, Array.toList, h3a, r6a, h4a, r8a, h5a, hol]
  refine ⟨fun h => ?_, fun h => ?_⟩
  · have h64 := hmem k h
    have hw := wrap_nat h (show all.length ≤ 9223372036854775807 by omega)
    have hst : (all.take (k + 1)).filter q = (all.take k).filter q ++ [all.getD k 0].filter q := by rw [take_snoc 0 h, List.filter_append]
    rw [ofN_getD h]
    refine ⟨h, h, askK_of (c_spec_l17Above all (all.getD k 0) hmem2 h64 (by omega)) ?_⟩
    have hq := hfr (all.getD k 0)
    have hol2 := ofN_length (all.filter fun t => (t &&& all.getD k 0 == all.getD k 0) && t != all.getD k 0)
    have hcast : (((all.filter fun t => (t &&& all.getD k 0 == all.getD k 0) && t != all.getD k 0).length : Int) == 1) = q (all.getD k 0) := by
      rw [← hq, Bool.eq_iff_iff, beq_iff_eq, beq_iff_eq]; omega
    generalize (all.filter fun t => (t &&& all.getD k 0 == all.getD k 0) && t != all.getD k 0) = up at *
    simp (maxSteps := 5000000) -dsimp only [↓gp, gq, reduceCtorEq, Nat.reduceEqDiff, Nat.reduceLT, Nat.reduceLeDiff, Nat.reduceAdd, Nat.reduceMul, Nat.reduceSub, Nat.reduceBEq, Int.reduceToNat, Int.reduceLE, Int.reduceLT, Int.reduceNeg, Nat.reduceMod, sid_ne1, sid_ne2, sid_inj, sid_mod, gT, TK.isInt, TK.agg, Array.toList, h3a, r6a, h4a, r8a, h5a, hol, hol2, ofN_getD h, hcast]
    refine ⟨fun hb => ⟨h, h, by rw [ofN_length]; omega, ?_⟩, fun hb => ?_⟩
    · have e : ofN ((all.take (k + 1)).filter q) = ofN ((all.take k).filter q) ++ [((all.getD k 0 : Nat) : Int)] := by rw [hst, ofN_append, List.filter_cons, if_pos hb, List.filter_nil]; rfl
      exact again_of ((k + 1, v + 1)) (by refine ⟨?_, ?_, ?_, ?_, ?_, by dsimp only; omega⟩ <;> (first | (simp (maxSteps := 5000000) -dsimp only [gr, Nat.reduceEqDiff, Nat.reduceLT, Nat.reduceAdd, Nat.reduceMod, Nat.reduceBEq, sid_mod, sid_ne1, sid_ne2, sid_inj, h3a, r6a, h4a, r8a, h5a, hw, e]; first | done | rfl | (simp; done)) | assumption | rfl)) (by first | omega | (simp only; omega) | (dsimp only; omega) | (show _ < _; simp; omega))
    · have e : (all.take (k + 1)).filter q = (all.take k).filter q := by rw [hst, List.filter_cons, if_neg (by rw [hb]; decide), List.filter_nil, List.append_nil]
      exact again_of ((k + 1, v)) (by refine ⟨?_, ?_, ?_, ?_, ?_, by dsimp only; omega⟩ <;> (first | (simp (maxSteps := 5000000) -dsimp only [gr, Nat.reduceEqDiff, Nat.reduceLT, Nat.reduceAdd, Nat.reduceMod, Nat.reduceBEq, sid_mod, sid_ne1, sid_ne2, sid_inj, h3a, r6a, h4a, r8a, h5a, hw, e]; first | done | rfl | (simp; done)) | assumption | rfl)) (by first | omega | (simp only; omega) | (dsimp only; omega) | (show _ < _; simp; omega))
  · have e : k = all.length := by omega
    subst e
    rw [List.take_length]
theorem c_spec_l5Without (n : Int) (xs : List Int) (c : Nat) (hc : c < 64) : AC Tryd.prog 37 [.ag [int n, ints xs], int c] (.ag [.im (int n), .fr 3 1 (iL (ofN (extN (rmF (facF n xs) c) true)))]) := by
  refine AC.go (rs := [.cell 4 31]) T_ok mixed Tryd.func37 rfl rfl rfl (by kernel_rfl) fun hl => ?_
  simp (maxSteps := 5000000) -dsimp only [↓gp, gq, reduceCtorEq, Nat.reduceEqDiff, Nat.reduceLT, Nat.reduceLeDiff, Nat.reduceAdd, Nat.reduceMul, Nat.reduceSub, Nat.reduceBEq, Int.reduceToNat, Int.reduceLE, Int.reduceLT, Int.reduceNeg, Nat.reduceMod, sid_ne1, sid_ne2, sid_inj, sid_mod, gT, TK.isInt, TK.agg, Array.toList]
  refine askK_of (c_spec_FacesOf n xs) ?_
  have hol := ofN_length (ordN (facF n xs))
  have holen := ordN_len (facF n xs)
  have hmem := fun i (hi : i < (ordN (facF n xs)).length) => (mem_ordN.1 (getD_mem 0 hi)).1
  have hmem2 : ∀ g ∈ ordN (facF n xs), g < 64 := fun g hg => (mem_ordN.1 hg).1
  have hext : extN (inF (ofN ((ordN (facF n xs)).filter fun t => !(t &&& c == c)))) true = extN (rmF (facF n xs) c) true := by
    refine extN_congr (fun s hs => ?_) true
    rw [inF_ofN, Bool.eq_iff_iff, decide_eq_true_iff, List.mem_filter, mem_ordN]
    unfold rmF
    rw [Bool.and_eq_true]
    exact ⟨fun h => ⟨h.1.2, h.2⟩, fun h => ⟨⟨hs, h.1⟩, h.2⟩⟩
  rw [← hext]
  generalize ordN (facF n xs) = all at *
  generalize hpq : (fun t : Nat => !(t &&& c == c)) = q at *
  simp (maxSteps := 5000000) -dsimp only [↓gp, gq, reduceCtorEq, Nat.reduceEqDiff, Nat.reduceLT, Nat.reduceLeDiff, Nat.reduceAdd, Nat.reduceMul, Nat.reduceSub, Nat.reduceBEq, Int.reduceToNat, Int.reduceLE, Int.reduceLT, Int.reduceNeg, Nat.reduceMod, sid_ne1, sid_ne2, sid_inj, sid_mod, gT, TK.isInt, TK.agg, Array.toList]
  refine loop_of (fun (za : Nat × Nat) s => match za with | (k, v) => s.sl 1 = int c ∧ s.sl 2 = .ref 2 1 0 ∧ s.rw 2 = ⟨1, .box 31 [int n, ints xs]⟩ ∧ s.sl 4 = .ref 4 1 0 ∧ s.rw 4 = ⟨1, .box 31 [int 0, .v (.slice none 0 0)]⟩ ∧ s.sl 5 = .own 8 v ∧ s.rw 8 = ⟨v, .sli 3 1 false (iL (ofN ((all.take k).filter q)))⟩ ∧ s.sl 6 = .own 10 1 ∧ s.rw 10 = ⟨1, .sli 3 1 false (iL (ofN all))⟩ ∧ s.sl 7 = int k ∧ (k ≤ all.length)) (fun (k, v) => all.length - k) ((0, 1)) (by refine ⟨?_, ?_, ?_, ?_, ?_, ?_, ?_, ?_, ?_, ?_, by omega⟩ <;> (first | (simp (maxSteps := 5000000) -dsimp only [gr, Nat.reduceEqDiff, Nat.reduceLT, Nat.reduceAdd, Nat.reduceMod, Nat.reduceBEq, sid_mod, sid_ne1, sid_ne2, sid_inj]; first | done | rfl | (simp; done)) | assumption | rfl)) ?_
  intro (k, v) sa ⟨h1a, h2a, r2a, h4a, r4a, h5a, r8a, h6a, r10a, h7a, hIa⟩
  have hfl : ((all.take k).filter q).length ≤ k := Nat.le_trans (List.length_filter_le _ _) (by rw [List.length_take]; omega)
  simp (maxSteps := 5000000) -dsimp only [↓gp, gq, reduceCtorEq, Nat.reduceEqDiff, Nat.reduceLT, Nat.reduceLeDiff, Nat.reduceAdd, Nat.reduceMul, Nat.reduceSub, Nat.reduceBEq, Int.reduceToNat, Int.reduceLE, Int.reduceLT, Int.reduceNeg, Nat.reduceMod, sid_ne1, sid_ne2, sid_inj, sid_mod, gT, TK.isInt, TK.agg, Array.toList, h1a, h2a, r2a, h4a, r4a, h5a, r8a, h6a, r10a, h7a, hol]
  refine ⟨fun h => ?_, fun h => ?_⟩
  · have h64 := hmem k h
    have hw := wrap_nat h (show all.length ≤ 9223372036854775807 by omega)
    have hst : (all.take (k + 1)).filter q = (all.take k).filter q ++ [all.getD k 0].filter q := by rw [take_snoc 0 h, List.filter_append]
    have hqk : (iand .i64 ((all.getD k 0 : Nat) : Int) (c : Int) != (c : Int)) = q (all.getD k 0) := by
      rw [← hpq, iand_nat (by omega) (by omega)]
      show _ = !(all.getD k 0 &&& c == c)
      rw [Bool.eq_iff_iff, bne_iff_ne, Bool.not_eq_true', beq_eq_false_iff_ne]; omega
    rw [ofN_getD h, hqk]
    refine ⟨h, h, fun hb => ⟨h, h, by rw [ofN_length]; omega, ?_⟩, fun hb => ?_⟩
    · have e : ofN ((all.take (k + 1)).filter q) = ofN ((all.take k).filter q) ++ [((all.getD k 0 : Nat) : Int)] := by rw [hst, ofN_append, List.filter_cons, if_pos hb, List.filter_nil]; rfl
      exact again_of ((k + 1, v + 1)) (by refine ⟨?_, ?_, ?_, ?_, ?_, ?_, ?_, ?_, ?_, ?_, by dsimp only; omega⟩ <;> (first | (simp (maxSteps := 5000000) -dsimp only [gr, Nat.reduceEqDiff, Nat.reduceLT, Nat.reduceAdd, Nat.reduceMod, Nat.reduceBEq, sid_mod, sid_ne1, sid_ne2, sid_inj, h1a, h2a, r2a, h4a, r4a, h5a, r8a, h6a, r10a, h7a, hw, e]; first | done | rfl | (simp; done)) | assumption | rfl)) (by first | omega | (simp only; omega) | (dsimp only; omega) | (show _ < _; simp; omega))
    · have e : (all.take (k + 1)).filter q = (all.take k).filter q := by rw [hst, List.filter_cons, if_neg (by rw [hb]; decide), List.filter_nil, List.append_nil]
      exact again_of ((k + 1, v)) (by refine ⟨?_, ?_, ?_, ?_, ?_, ?_, ?_, ?_, ?_, ?_, by dsimp only; omega⟩ <;> (first | (simp (maxSteps := 5000000) -dsimp only [gr, Nat.reduceEqDiff, Nat.reduceLT, Nat.reduceAdd, Nat.reduceMod, Nat.reduceBEq, sid_mod, sid_ne1, sid_ne2, sid_inj, h1a, h2a, r2a, h4a, r4a, h5a, r8a, h6a, r10a, h7a, hw, e]; first | done | rfl | (simp; done)) | assumption | rfl)) (by first | omega | (simp only; omega) | (dsimp only; omega) | (show _ < _; simp; omega))
  · have e : k = all.length := by omega
    subst e
    rw [List.take_length]
    refine askK_of (c_spec_l3Make n _ (fun x hx => ?_)) ?_
    · obtain ⟨s, hs, rfl⟩ := List.mem_map.1 (show x ∈ (all.filter q).map fun s : Nat => (s : Int) from hx)
      have := hmem2 s (List.mem_filter.1 hs).1
      omega
    · simp (maxSteps := 5000000) -dsimp only [↓gp, gq, reduceCtorEq, Nat.reduceEqDiff, Nat.reduceLT, Nat.reduceLeDiff, Nat.reduceAdd, Nat.reduceMul, Nat.reduceSub, Nat.reduceBEq, Int.reduceToNat, Int.reduceLE, Int.reduceLT, Int.reduceNeg, Nat.reduceMod, sid_ne1, sid_ne2, sid_inj, sid_mod, gT, TK.isInt, TK.agg, Array.toList, h1a, h2a, r2a, h4a, r4a, h5a, r8a, h6a, r10a, h7a]
/-- A family of faces within n points. -/
def famOk (n : Int) (f : Nat → Bool) : Prop := DnF f ∧ ∀ s, s < 64 → f s = true → s < 2 ^ n.toNat
theorem fam_cx {n : Int} (h1 : 1 ≤ n) (h6 : n ≤ 6) {f : Nat → Bool} (h : famOk n f) : isCx n (ofN (extN f true)) = true := by
  have := ext_cx (m := n.toNat) (by omega) (by omega) h.2
  rwa [show ((n.toNat : Nat) : Int) = n by omega] at this
theorem fam_fac {n : Int} (h1 : 1 ≤ n) (h6 : n ≤ 6) {f : Nat → Bool} (h : famOk n f) : ∀ s, s < 64 → facF n (ofN (extN f true)) s = f s := fun s hs => by
  unfold facF
  rw [fam_cx h1 h6 h, Bool.true_and, faceB_ext, dn_any h.1 hs]
theorem fam_rm {n : Int} {f : Nat → Bool} (h : famOk n f) (c : Nat) : famOk n (rmF f c) := ⟨dn_rm h.1 c, fun s hs hr => h.2 s hs (by unfold rmF at hr; rw [Bool.and_eq_true] at hr; exact hr.1)⟩
theorem fam_ini {n : Int} {xs : List Int} (h : isCx n xs = true) : famOk n (faceB xs) := by
  refine ⟨fun s t a b => faceB_down a b, fun s hs hf => ?_⟩
  unfold faceB at hf
  rw [List.any_eq_true] at hf
  obtain ⟨x, hx, e⟩ := hf
  have e := beq_iff_eq.1 e
  obtain ⟨h1, h6, hk⟩ := isCx_iff.1 h
  obtain ⟨i, hi, rfl⟩ := mem_getD 0 hx
  have hin := (hk i hi).1
  unfold inSet at hin
  rw [decide_eq_true_iff] at hin
  obtain ⟨_, _, a, b⟩ := hin
  have : s ≤ (xs.getD i 0).toNat := by rw [← e]; exact Nat.and_le_left
  have e2 : ((2 : Int) ^ n.toNat) = ((2 ^ n.toNat : Nat) : Int) := by simp
  rw [e2] at b
  omega
theorem rm_ext {f g : Nat → Bool} (h : ∀ s, s < 64 → f s = g s) (c : Nat) : extN (rmF f c) true = extN (rmF g c) true := extN_congr (fun s hs => by unfold rmF; rw [h s hs]) true
theorem c_spec_l3CopyB (n : Int) (xs : List Int) (hx : xs.length ≤ 1048576) : AC Tryd.prog 35 [.ag [int n, ints xs]] (.ag [.im (int n), .fr 3 1 (iL xs)]) := by
  refine AC.go (rs := [.cell 2 31]) T_ok mixed Tryd.func35 rfl rfl rfl (by kernel_rfl) fun hl => ?_
  simp (maxSteps := 5000000) -dsimp only [↓gp, gq, reduceCtorEq, Nat.reduceEqDiff, Nat.reduceLT, Nat.reduceLeDiff, Nat.reduceAdd, Nat.reduceMul, Nat.reduceSub, Nat.reduceBEq, Int.reduceToNat, Int.reduceLE, Int.reduceLT, Int.reduceNeg, Nat.reduceMod, sid_ne1, sid_ne2, sid_inj, sid_mod, gT, TK.isInt, TK.agg, Array.toList]
  exact ⟨by kernel_rfl, by omega, by kernel_rfl⟩
/-- A session that begins. -/
theorem c_spec_CollapseAll (n : Int) (xs : List Int) :
    AC Tryd.prog 22 [.ag [int n, ints xs]] (.tup [.ag [.im (int (if isCx n xs = true then n else 0)), .fr 3 1 (iL (if isCx n xs = true then ofN (extN (colF xs).1 true) else []))], .fr 3 1 (iL (if isCx n xs = true then ofN (colF xs).2 else [])), .im (bool (isCx n xs))]) := by
  refine AC.go (rs := [.cell 2 31, .tmp 3, .tmp 4]) T_ok mixed Tryd.func22 rfl rfl rfl (by kernel_rfl) fun hl => ?_
  simp (maxSteps := 5000000) -dsimp only [↓gp, gq, reduceCtorEq, Nat.reduceEqDiff, Nat.reduceLT, Nat.reduceLeDiff, Nat.reduceAdd, Nat.reduceMul, Nat.reduceSub, Nat.reduceBEq, Int.reduceToNat, Int.reduceLE, Int.reduceLT, Int.reduceNeg, Nat.reduceMod, sid_ne1, sid_ne2, sid_inj, sid_mod, gT, TK.isInt, TK.agg, Array.toList]
  refine askK_of (c_spec_IsComplex n xs) ?_
  simp (maxSteps := 5000000) -dsimp only [↓gp, gq, reduceCtorEq, Nat.reduceEqDiff, Nat.reduceLT, Nat.reduceLeDiff, Nat.reduceAdd, Nat.reduceMul, Nat.reduceSub, Nat.reduceBEq, Int.reduceToNat, Int.reduceLE, Int.reduceLT, Int.reduceNeg, Nat.reduceMod, sid_ne1, sid_ne2, sid_inj, sid_mod, gT, TK.isInt, TK.agg, Array.toList]
  refine ⟨fun hc => ?_, fun hc => ?_⟩
  · have hc : isCx n xs = false := by simpa using hc
    rw [hc]; exact ⟨rfl, rfl, rfl, rfl⟩
  · have hc : isCx n xs = true := by simpa using hc
    rw [hc]
    obtain ⟨h1, h6, _⟩ := isCx_iff.1 hc
    have hxe := cx_ext hc
    have hxl : xs.length ≤ 448 := by rw [hxe, ofN_length]; exact extN_len _ _
    refine askK_of (c_spec_l3CopyB n xs (by omega)) ?_
    simp (maxSteps := 5000000) -dsimp only [↓gp, gq, reduceCtorEq, Nat.reduceEqDiff, Nat.reduceLT, Nat.reduceLeDiff, Nat.reduceAdd, Nat.reduceMul, Nat.reduceSub, Nat.reduceBEq, Int.reduceToNat, Int.reduceLE, Int.reduceLT, Int.reduceNeg, Nat.reduceMod, sid_ne1, sid_ne2, sid_inj, sid_mod, gT, TK.isInt, TK.agg, Array.toList]
    refine loop_of (fun (za : (Nat → Bool) × List Nat × Nat × Nat × PV × Nat) s => match za with | (f, l, m, v, fc, u) => s.sl 2 = .ref 2 1 0 ∧ s.rw 2 = ⟨1, .box 31 [int 0, .v (.slice none 0 0)]⟩ ∧ s.sl 5 = .ref 5 1 0 ∧ s.rw 5 = ⟨1, .box 31 [int n, fc]⟩ ∧ s.sl 6 = .own 16 v ∧ s.rw 16 = ⟨v, .sli 3 1 false (iL (ofN l))⟩ ∧ (colG m f l = colF xs ∧ cntF f ≤ m ∧ l.length + m ≤ 64 ∧ famOk n f ∧ ((fc = .own 15 1 ∧ s.rw 15 = ⟨1, .sli 3 1 false (iL (ofN (extN f true)))⟩) ∨ (fc = .own 45 u ∧ s.rw 45 = ⟨u, .sli 3 1 false (iL (ofN (extN f true)))⟩)))) (fun (f, l, m, v, fc, u) => m) ((faceB xs, [], 64, 1, .own 15 1, 0)) (by refine ⟨?_, ?_, ?_, ?_, ?_, ?_, ⟨rfl, cnt_64 _, by simp, fam_ini hc, Or.inl ⟨rfl, by rw [← hxe]; simp (maxSteps := 5000000) -dsimp only [gr, Nat.reduceEqDiff, Nat.reduceLT, Nat.reduceAdd, Nat.reduceMod, Nat.reduceBEq, sid_mod, sid_ne1, sid_ne2, sid_inj]⟩⟩⟩ <;> (first | (simp (maxSteps := 5000000) -dsimp only [gr, Nat.reduceEqDiff, Nat.reduceLT, Nat.reduceAdd, Nat.reduceMod, Nat.reduceBEq, sid_mod, sid_ne1, sid_ne2, sid_inj]; first | done | rfl | (simp; done)) | assumption | rfl)) ?_
    intro (f, l, m, v, fc, u) sa ⟨h2a, r2a, h5a, r5a, h6a, r16a, hIa⟩
    obtain ⟨hcol, hcnt, hlen, hfam, hfc⟩ := hIa
    rcases hfc with ⟨rfl, hrow⟩ | ⟨rfl, hrow⟩
    · have hfac := fam_fac h1 h6 hfam
      have hcx := fam_cx h1 h6 hfam
      have hfr : freeL (facF n (ofN (extN f true))) = freeL f := freeL_congr hfac
      simp (maxSteps := 5000000) -dsimp only [↓gp, gq, reduceCtorEq, Nat.reduceEqDiff, Nat.reduceLT, Nat.reduceLeDiff, Nat.reduceAdd, Nat.reduceMul, Nat.reduceSub, Nat.reduceBEq, Int.reduceToNat, Int.reduceLE, Int.reduceLT, Int.reduceNeg, Nat.reduceMod, sid_ne1, sid_ne2, sid_inj, sid_mod, gT, TK.isInt, TK.agg, Array.toList, h2a, r2a, h5a, r5a, h6a, r16a, hrow]
      refine askK_of (c_spec_FreeFaces n (ofN (extN f true))) ?_
      rw [hfr]
      have hol := ofN_length (freeL f)
      have hfl := freeL_len f
      by_cases hz0 : (freeL f).length = 0
      · have hs : stopC f = true := by unfold stopC; rw [hz0]; rfl
        have he := colG_stop hs l m
        rw [hcol] at he
        simp (maxSteps := 5000000) -dsimp only [↓gp, gq, reduceCtorEq, Nat.reduceEqDiff, Nat.reduceLT, Nat.reduceLeDiff, Nat.reduceAdd, Nat.reduceMul, Nat.reduceSub, Nat.reduceBEq, Int.reduceToNat, Int.reduceLE, Int.reduceLT, Int.reduceNeg, Nat.reduceMod, sid_ne1, sid_ne2, sid_inj, sid_mod, gT, TK.isInt, TK.agg, Array.toList, h2a, r2a, h5a, r5a, h6a, r16a, hrow, hol, hz0, show (((0 : Nat) : Int) == 0) = true from rfl]
        rw [he]
        exact ⟨rfl, rfl⟩
      · have hw1 : IntKind.i64.wrap (((freeL f).length : Int) - 1) = (((freeL f).length - 1 : Nat) : Int) := by rw [wrap_id (by omega) (by omega)]; omega
        have hne : (((freeL f).length : Int) == 0) = false := beq_eq_false_iff_ne.2 (by omega)
        have hlast := lastL_ofN (l := freeL f) (by omega)
        simp (maxSteps := 5000000) -dsimp only [↓gp, gq, reduceCtorEq, Nat.reduceEqDiff, Nat.reduceLT, Nat.reduceLeDiff, Nat.reduceAdd, Nat.reduceMul, Nat.reduceSub, Nat.reduceBEq, Int.reduceToNat, Int.reduceLE, Int.reduceLT, Int.reduceNeg, Nat.reduceMod, sid_ne1, sid_ne2, sid_inj, sid_mod, gT, TK.isInt, TK.agg, Array.toList, h2a, r2a, h5a, r5a, h6a, r16a, hrow, hol, hw1, hne, Int.toNat_natCast, hlast]
        refine ⟨by omega, by omega, fun h0 => ?_, fun h0 => ?_⟩
        · have hs : stopC f = true := by
            unfold stopC
            have : lastL (freeL f) = 0 := by have := beq_iff_eq.1 h0; omega
            rw [this]; simp
          have he := colG_stop hs l m
          rw [hcol] at he
          rw [he]
          exact ⟨rfl, rfl⟩
        · have hs : stopC f = false := by
            unfold stopC
            rw [Bool.or_eq_false_iff, beq_eq_false_iff_ne, beq_eq_false_iff_ne]
            refine ⟨hz0, fun e => ?_⟩
            rw [e] at h0; simp at h0
          obtain ⟨c1, c2, c3, c4, c5⟩ := last_free hs
          have hpos := cnt_pos hs
          obtain ⟨m', rfl⟩ : ∃ m', m = m' + 1 := ⟨m - 1, by omega⟩
          obtain ⟨hstep, hcnt'⟩ := colG_step hs l hcnt
          generalize hsv : lastL (freeL f) = sv at *
          have hl5 := c_spec_l5Without n (ofN (extN f true)) sv c1
          rw [rm_ext hfac sv] at hl5
          refine ⟨by omega, by omega, by rw [ofN_length]; omega, askK_of hl5 ?_⟩
          have e2 : ofN (l ++ [sv]) = ofN l ++ [((sv : Nat) : Int)] := ofN_append l [sv]
          simp (maxSteps := 5000000) -dsimp only [↓gp, gq, reduceCtorEq, Nat.reduceEqDiff, Nat.reduceLT, Nat.reduceLeDiff, Nat.reduceAdd, Nat.reduceMul, Nat.reduceSub, Nat.reduceBEq, Int.reduceToNat, Int.reduceLE, Int.reduceLT, Int.reduceNeg, Nat.reduceMod, sid_ne1, sid_ne2, sid_inj, sid_mod, gT, TK.isInt, TK.agg, Array.toList, h2a, r2a, h5a, r5a, h6a, r16a, hrow]
          exact again_of ((rmF f sv, l ++ [sv], m', v + 1, .own 45 ((sa.rw 45).ver + 1), (sa.rw 45).ver + 1)) (by refine ⟨?_, ?_, ?_, ?_, ?_, ?_, ⟨by rw [← hstep]; exact hcol, hcnt', by show (l ++ [sv]).length + m' ≤ 64; rw [List.length_append, List.length_singleton]; omega, fam_rm hfam sv, Or.inr ⟨rfl, by simp (maxSteps := 5000000) -dsimp only [gr, Nat.reduceEqDiff, Nat.reduceLT, Nat.reduceAdd, Nat.reduceMod, Nat.reduceBEq, sid_mod, sid_ne1, sid_ne2, sid_inj, hrow]⟩⟩⟩ <;> (first | (simp (maxSteps := 5000000) -dsimp only [gr, Nat.reduceEqDiff, Nat.reduceLT, Nat.reduceAdd, Nat.reduceMod, Nat.reduceBEq, sid_mod, sid_ne1, sid_ne2, sid_inj, h2a, r2a, h5a, r5a, h6a, r16a, hrow, e2]; first | done | rfl | (simp; done)) | assumption | rfl)) (by first | omega | (simp only; omega) | (dsimp only; omega) | (show _ < _; simp; omega))
    · have hfac := fam_fac h1 h6 hfam
      have hcx := fam_cx h1 h6 hfam
      have hfr : freeL (facF n (ofN (extN f true))) = freeL f := freeL_congr hfac
      simp (maxSteps := 5000000) -dsimp only [↓gp, gq, reduceCtorEq, Nat.reduceEqDiff, Nat.reduceLT, Nat.reduceLeDiff, Nat.reduceAdd, Nat.reduceMul, Nat.reduceSub, Nat.reduceBEq, Int.reduceToNat, Int.reduceLE, Int.reduceLT, Int.reduceNeg, Nat.reduceMod, sid_ne1, sid_ne2, sid_inj, sid_mod, gT, TK.isInt, TK.agg, Array.toList, h2a, r2a, h5a, r5a, h6a, r16a, hrow]
      refine askK_of (c_spec_FreeFaces n (ofN (extN f true))) ?_
      rw [hfr]
      have hol := ofN_length (freeL f)
      have hfl := freeL_len f
      by_cases hz0 : (freeL f).length = 0
      · have hs : stopC f = true := by unfold stopC; rw [hz0]; rfl
        have he := colG_stop hs l m
        rw [hcol] at he
        simp (maxSteps := 5000000) -dsimp only [↓gp, gq, reduceCtorEq, Nat.reduceEqDiff, Nat.reduceLT, Nat.reduceLeDiff, Nat.reduceAdd, Nat.reduceMul, Nat.reduceSub, Nat.reduceBEq, Int.reduceToNat, Int.reduceLE, Int.reduceLT, Int.reduceNeg, Nat.reduceMod, sid_ne1, sid_ne2, sid_inj, sid_mod, gT, TK.isInt, TK.agg, Array.toList, h2a, r2a, h5a, r5a, h6a, r16a, hrow, hol, hz0, show (((0 : Nat) : Int) == 0) = true from rfl]
        rw [he]
        exact ⟨rfl, rfl⟩
      · have hw1 : IntKind.i64.wrap (((freeL f).length : Int) - 1) = (((freeL f).length - 1 : Nat) : Int) := by rw [wrap_id (by omega) (by omega)]; omega
        have hne : (((freeL f).length : Int) == 0) = false := beq_eq_false_iff_ne.2 (by omega)
        have hlast := lastL_ofN (l := freeL f) (by omega)
        simp (maxSteps := 5000000) -dsimp only [↓gp, gq, reduceCtorEq, Nat.reduceEqDiff, Nat.reduceLT, Nat.reduceLeDiff, Nat.reduceAdd, Nat.reduceMul, Nat.reduceSub, Nat.reduceBEq, Int.reduceToNat, Int.reduceLE, Int.reduceLT, Int.reduceNeg, Nat.reduceMod, sid_ne1, sid_ne2, sid_inj, sid_mod, gT, TK.isInt, TK.agg, Array.toList, h2a, r2a, h5a, r5a, h6a, r16a, hrow, hol, hw1, hne, Int.toNat_natCast, hlast]
        refine ⟨by omega, by omega, fun h0 => ?_, fun h0 => ?_⟩
        · have hs : stopC f = true := by
            unfold stopC
            have : lastL (freeL f) = 0 := by have := beq_iff_eq.1 h0; omega
            rw [this]; simp
          have he := colG_stop hs l m
          rw [hcol] at he
          rw [he]
          exact ⟨rfl, rfl⟩
        · have hs : stopC f = false := by
            unfold stopC
            rw [Bool.or_eq_false_iff, beq_eq_false_iff_ne, beq_eq_false_iff_ne]
            refine ⟨hz0, fun e => ?_⟩
            rw [e] at h0; simp at h0
          obtain ⟨c1, c2, c3, c4, c5⟩ := last_free hs
          have hpos := cnt_pos hs
          obtain ⟨m', rfl⟩ : ∃ m', m = m' + 1 := ⟨m - 1, by omega⟩
          obtain ⟨hstep, hcnt'⟩ := colG_step hs l hcnt
          generalize hsv : lastL (freeL f) = sv at *
          have hl5 := c_spec_l5Without n (ofN (extN f true)) sv c1
          rw [rm_ext hfac sv] at hl5
          refine ⟨by omega, by omega, by rw [ofN_length]; omega, askK_of hl5 ?_⟩
          have e2 : ofN (l ++ [sv]) = ofN l ++ [((sv : Nat) : Int)] := ofN_append l [sv]
          simp (maxSteps := 5000000) -dsimp only [↓gp, gq, reduceCtorEq, Nat.reduceEqDiff, Nat.reduceLT, Nat.reduceLeDiff, Nat.reduceAdd, Nat.reduceMul, Nat.reduceSub, Nat.reduceBEq, Int.reduceToNat, Int.reduceLE, Int.reduceLT, Int.reduceNeg, Nat.reduceMod, sid_ne1, sid_ne2, sid_inj, sid_mod, gT, TK.isInt, TK.agg, Array.toList, h2a, r2a, h5a, r5a, h6a, r16a, hrow]
          exact again_of ((rmF f sv, l ++ [sv], m', v + 1, .own 45 ((sa.rw 45).ver + 1), (sa.rw 45).ver + 1)) (by refine ⟨?_, ?_, ?_, ?_, ?_, ?_, ⟨by rw [← hstep]; exact hcol, hcnt', by show (l ++ [sv]).length + m' ≤ 64; rw [List.length_append, List.length_singleton]; omega, fam_rm hfam sv, Or.inr ⟨rfl, by simp (maxSteps := 5000000) -dsimp only [gr, Nat.reduceEqDiff, Nat.reduceLT, Nat.reduceAdd, Nat.reduceMod, Nat.reduceBEq, sid_mod, sid_ne1, sid_ne2, sid_inj, hrow]⟩⟩⟩ <;> (first | (simp (maxSteps := 5000000) -dsimp only [gr, Nat.reduceEqDiff, Nat.reduceLT, Nat.reduceAdd, Nat.reduceMod, Nat.reduceBEq, sid_mod, sid_ne1, sid_ne2, sid_inj, h2a, r2a, h5a, r5a, h6a, r16a, hrow, e2]; first | done | rfl | (simp; done)) | assumption | rfl)) (by first | omega | (simp only; omega) | (dsimp only; omega) | (show _ < _; simp; omega))
end Go.Proofs.YtmpjajhklilleaaDoor

namespace Go.Proofs.YtmpjajhklilleaaDoor
open Go.Abs
set_option linter.unusedSimpArgs false
set_option linter.unusedVariables false

theorem push_fold : ∀ (l : List UInt8) (a : ByteArray), ((l.map fun x => (x.toNat : Int)).foldl (fun r n => r.push (UInt8.ofNat n.toNat)) a) = ⟨(a.data.toList ++ l).toArray⟩ := by
  intro l
  induction l with
  | nil => intro a; simp
  | cons x l ih =>
    intro a
    rw [List.map_cons, List.foldl_cons, ih]
    have : UInt8.ofNat ((x.toNat : Int)).toNat = x := by simp
    rw [this]
    congr 1
    simp [ByteArray.push]
theorem cvRow_strB (ver e : Nat) (fz : Bool) (b : ByteArray) {Kp : PV → Prop} : cvRow ⟨ver, .sli e 1 fz (strB b)⟩ ver Kp = Kp (.v (.string b)) := by
  unfold cvRow
  simp only [true_and]
  have hb : strB b = (b.data.toList.map fun x => (x.toNat : Int)).map (fun n => PV.v (.int .u8 n)) := by simp [strB]
  have hf := push_fold b.data.toList ByteArray.empty
  have hf : ((b.data.toList.map fun x => (x.toNat : Int)).foldl (fun r n => r.push (UInt8.ofNat n.toNat)) ByteArray.empty) = b := by
    rw [hf]; show (⟨(([] : List UInt8) ++ b.data.toList).toArray⟩ : ByteArray) = b; simp
  refine propext ⟨fun ⟨bs, h1, h2⟩ => ?_, fun h => ⟨_, hb, by rw [hf]; exact h⟩⟩
  rw [hb] at h1
  have : b.data.toList.map (fun x => (x.toNat : Int)) = bs := (List.map_inj_right (fun x y h => by simpa using h)).1 h1
  rw [← this, hf] at h2
  exact h2
theorem strB_append (a b : ByteArray) : strB a ++ strB b = strB (a ++ b) := by
  unfold strB
  rw [← List.map_append, ByteArray.data_append, Array.toList_append]
theorem strB_nil : strB ⟨#[]⟩ = [] := rfl
/-- Texts joined, on the way. -/
def joinP (l : List ByteArray) (sep : ByteArray) : Nat → ByteArray | 0 => ⟨#[]⟩ | i + 1 => (if i = 0 then joinP l sep i else joinP l sep i ++ sep) ++ l.getD i ⟨#[]⟩
theorem c_spec_Join (l : List ByteArray) (sep : ByteArray) (hN : l.length ≤ 1000000000000) (hb : ∀ i, i ≤ l.length → (joinP l sep i).size + sep.size ≤ 70000000000000) : AC Tryd.prog 18 [.sl false 1 (sL l), str sep] (.im (str (joinP l sep l.length))) := by
  refine AC.go (rs := [.tmp 4]) T_ok mixed Tryd.func18 rfl rfl rfl (by kernel_rfl) fun hl => ?_
  simp only [lens_cons, lens_nil, and_true, lens2_ag2, lens1_v, lens1_iL, lens2_iL, lens2_v, true_and] at hl
  simp (maxSteps := 5000000) -dsimp only [↓gp, gq, reduceCtorEq, Nat.reduceEqDiff, Nat.reduceLT, Nat.reduceLeDiff, Nat.reduceAdd, Nat.reduceMul, Nat.reduceSub, Nat.reduceBEq, Int.reduceToNat, Int.reduceLE, Int.reduceLT, Int.reduceNeg, Nat.reduceMod, sid_ne1, sid_ne2, sid_inj, sid_mod, gT, TK.isInt, TK.agg, Array.toList]
  refine loop_of (fun (za : Nat × Nat) s => match za with | (i, v) => s.sl 0 = .sl false 1 (sL l) ∧ s.sl 1 = str sep ∧ s.sl 5 = .own 7 v ∧ s.rw 7 = ⟨v, .sli 5 1 false (strB (joinP l sep i))⟩ ∧ s.sl 6 = int i ∧ (i ≤ l.length)) (fun (i, v) => l.length - i) ((0, 1)) (by refine ⟨?_, ?_, ?_, ?_, ?_, by omega⟩ <;> (first | (simp (maxSteps := 5000000) -dsimp only [gr, Nat.reduceEqDiff, Nat.reduceLT, Nat.reduceAdd, Nat.reduceMod, Nat.reduceBEq, sid_mod, sid_ne1, sid_ne2, sid_inj, joinP, strB_nil]; first | done | rfl | (simp; done)) | assumption | rfl)) ?_
  intro (i, v) sa ⟨h0a, h1a, h5a, r7a, h6a, hIa⟩
  have hsl : (sL l).length = l.length := by simp [sL]
  have hbi := hb i hIa
  simp (maxSteps := 5000000) -dsimp only [↓gp, gq, reduceCtorEq, Nat.reduceEqDiff, Nat.reduceLT, Nat.reduceLeDiff, Nat.reduceAdd, Nat.reduceMul, Nat.reduceSub, Nat.reduceBEq, Int.reduceToNat, Int.reduceLE, Int.reduceLT, Int.reduceNeg, Nat.reduceMod, sid_ne1, sid_ne2, sid_inj, sid_mod, gT, TK.isInt, TK.agg, Array.toList, h0a, h1a, h5a, r7a, h6a, hsl, conv_own, cvRow_strB]
  refine ⟨fun h => ?_, fun h => ?_⟩
  · have hb1 := hb (i + 1) h
    have hw := wrap_nat h (show l.length ≤ 9223372036854775807 by omega)
    have hse := strB_length sep
    have hsj := strB_length (joinP l sep i)
    refine ⟨fun h0 => ?_, fun h0 => ?_⟩
    · have e : joinP l sep (i + 1) = (joinP l sep i ++ sep) ++ l.getD i ⟨#[]⟩ := by rw [joinP, if_neg (by omega)]
      rw [e, ByteArray.size_append, ByteArray.size_append] at hb1
      have e2 : strB (joinP l sep i) ++ strB sep ++ strB (l.getD i ⟨#[]⟩) = strB (joinP l sep (i + 1)) := by rw [strB_append, strB_append, e]
      exact ⟨by omega, h, h, by rw [List.length_append]; omega, again_of ((i + 1, v + 1 + 1)) (by refine ⟨?_, ?_, ?_, ?_, ?_, by dsimp only; omega⟩ <;> (first | (simp (maxSteps := 5000000) -dsimp only [gr, Nat.reduceEqDiff, Nat.reduceLT, Nat.reduceAdd, Nat.reduceMod, Nat.reduceBEq, sid_mod, sid_ne1, sid_ne2, sid_inj, h0a, h1a, h5a, r7a, h6a, hw, e2]; first | done | rfl | (simp; done)) | assumption | rfl)) (by first | omega | (simp only; omega) | (dsimp only; omega) | (show _ < _; simp; omega))⟩
    · have e : joinP l sep (i + 1) = joinP l sep i ++ l.getD i ⟨#[]⟩ := by rw [joinP, if_pos (by omega)]
      rw [e, ByteArray.size_append] at hb1
      have e2 : strB (joinP l sep i) ++ strB (l.getD i ⟨#[]⟩) = strB (joinP l sep (i + 1)) := by rw [strB_append, e]
      exact ⟨h, h, by omega, again_of ((i + 1, v + 1)) (by refine ⟨?_, ?_, ?_, ?_, ?_, by dsimp only; omega⟩ <;> (first | (simp (maxSteps := 5000000) -dsimp only [gr, Nat.reduceEqDiff, Nat.reduceLT, Nat.reduceAdd, Nat.reduceMod, Nat.reduceBEq, sid_mod, sid_ne1, sid_ne2, sid_inj, h0a, h1a, h5a, r7a, h6a, hw, e2]; first | done | rfl | (simp; done)) | assumption | rfl)) (by first | omega | (simp only; omega) | (dsimp only; omega) | (show _ < _; simp; omega))⟩
  · have : i = l.length := by omega
    rw [this]
end Go.Proofs.YtmpjajhklilleaaDoor

namespace Go.Proofs.YtmpjajhklilleaaDoor
open Go.Abs
set_option linter.unusedSimpArgs false
set_option linter.unusedVariables false

theorem bit_i64 : ∀ s, s < 64 → ∀ i, i < 6 → (iand .i64 (ishr .i64 (s : Nat) (i : Nat)) 1 == 1) = s.testBit i := by
  have h : ((List.range 64).all fun s => (List.range 6).all fun i => (iand .i64 (ishr .i64 (s : Nat) (i : Nat)) 1 == 1) == s.testBit i) = true := by decide +kernel
  intro s hs i hi
  have := List.all_eq_true.1 (List.all_eq_true.1 h s (List.mem_range.2 hs)) i (List.mem_range.2 hi)
  simpa using this
/-- The points of a set, as text. -/
def ptsP (s i : Nat) : List Nat := (List.range i).filter s.testBit
def txP (s i : Nat) : ByteArray := ⟨((ptsP s i).map fun j => UInt8.ofNat (97 + j)).toArray⟩
def setTx (s : Nat) : ByteArray := if s = 0 then ⟨#[45]⟩ else txP s 6
def setTI (s : Int) : ByteArray := if 0 ≤ s ∧ s < 64 then setTx s.toNat else ⟨#[]⟩
theorem ptsP_yes {s i : Nat} (h : s.testBit i = true) : ptsP s (i + 1) = ptsP s i ++ [i] := by unfold ptsP; rw [List.range_succ, List.filter_append]; simp [h]
theorem ptsP_no {s i : Nat} (h : s.testBit i = false) : ptsP s (i + 1) = ptsP s i := by unfold ptsP; rw [List.range_succ, List.filter_append]; simp [h]
theorem txP_yes {s i : Nat} (h : s.testBit i = true) : txP s (i + 1) = txP s i ++ ⟨#[UInt8.ofNat (97 + i)]⟩ := by
  unfold txP; rw [ptsP_yes h]
  refine ByteArray.ext ?_
  simp
theorem txP_no {s i : Nat} (h : s.testBit i = false) : txP s (i + 1) = txP s i := by unfold txP; rw [ptsP_no h]
theorem ptsP_len (s i : Nat) : (ptsP s i).length ≤ i := by
  have := List.length_filter_le s.testBit (List.range i)
  rwa [List.length_range] at this
theorem txP_size (s i : Nat) : (txP s i).size ≤ i := by
  have := ptsP_len s i
  show ((ptsP s i).map _).toArray.size ≤ i
  simpa using this
theorem abc_cut : ∀ i, i < 6 → (⟨#[97, 98, 99, 100, 101, 102]⟩ : ByteArray).extract i (i + 1) = ⟨#[UInt8.ofNat (97 + i)]⟩ := by decide +kernel
theorem c_spec_SetText (s : Int) : AC Tryd.prog 38 [int s] (.im (str (setTI s))) := by
  refine AC.go (rs := [.tmp 2]) T_ok mixed Tryd.func38 rfl rfl rfl (by kernel_rfl) fun hl => ?_
  simp (maxSteps := 5000000) -dsimp only [↓gp, gq, reduceCtorEq, Nat.reduceEqDiff, Nat.reduceLT, Nat.reduceLeDiff, Nat.reduceAdd, Nat.reduceMul, Nat.reduceSub, Nat.reduceBEq, Int.reduceToNat, Int.reduceLE, Int.reduceLT, Int.reduceNeg, Nat.reduceMod, sid_ne1, sid_ne2, sid_inj, sid_mod, gT, TK.isInt, TK.agg, Array.toList]
  refine askK_of (c_spec_l1In _ _ _) ?_
  simp (maxSteps := 5000000) -dsimp only [↓gp, gq, reduceCtorEq, Nat.reduceEqDiff, Nat.reduceLT, Nat.reduceLeDiff, Nat.reduceAdd, Nat.reduceMul, Nat.reduceSub, Nat.reduceBEq, Int.reduceToNat, Int.reduceLE, Int.reduceLT, Int.reduceNeg, Nat.reduceMod, sid_ne1, sid_ne2, sid_inj, sid_mod, gT, TK.isInt, TK.agg, Array.toList]
  unfold setTI
  refine ⟨fun h => ?_, fun h => ?_⟩
  · rw [if_neg (fun hc => by simp at h; omega)]
  · have h : 0 ≤ s ∧ s ≤ 63 := by simpa using h
    rw [if_pos ⟨h.1, by omega⟩]
    obtain ⟨u, rfl⟩ : ∃ u : Nat, s = u := ⟨s.toNat, by omega⟩
    rw [Int.toNat_natCast]
    have hu : u < 64 := by omega
    refine ⟨fun h0 => ?_, fun h0 => ?_⟩
    · have : u = 0 := by
        have : (u : Int) = 0 := by simpa using h0
        omega
      rw [this]; rfl
    · have hne : u ≠ 0 := fun e => by rw [e] at h0; simp at h0
      have hse : setTx u = txP u 6 := if_neg hne
      rw [hse]
      refine loop_of (fun (i : Nat) s => s.sl 0 = int u ∧ s.sl 3 = str (txP u i) ∧ s.sl 4 = int i ∧ (i ≤ 6)) (fun i => 6 - i) (0) (by refine ⟨?_, ?_, ?_, by omega⟩ <;> (first | (simp (maxSteps := 5000000) -dsimp only [gr, Nat.reduceEqDiff, Nat.reduceLT, Nat.reduceAdd, Nat.reduceMod, Nat.reduceBEq, sid_mod, sid_ne1, sid_ne2, sid_inj]; first | done | rfl | (simp; done)) | assumption | rfl)) ?_
      intro i sa ⟨h0a, h3a, h4a, hIa⟩
      have hun : IntKind.u64.wrap (i : Int) = (i : Int) := uwrap_id (by omega)
      by_cases hi : i < 6
      · have hbit := bit_i64 u hu i hi
        have hcut := abc_cut i hi
        have hw := wrap_nat hi (by omega)
        simp (maxSteps := 5000000) -dsimp only [↓gp, gq, reduceCtorEq, Nat.reduceEqDiff, Nat.reduceLT, Nat.reduceLeDiff, Nat.reduceAdd, Nat.reduceMul, Nat.reduceSub, Nat.reduceBEq, Int.reduceToNat, Int.reduceLE, Int.reduceLT, Int.reduceNeg, Nat.reduceMod, sid_ne1, sid_ne2, sid_inj, sid_mod, gT, TK.isInt, TK.agg, Array.toList, h0a, h3a, h4a, hun, hbit, hw, Int.toNat_natCast, hcut]
        have hsz := txP_size u i
        refine ⟨fun _ => ⟨fun hb => ⟨by omega, by show i + 1 ≤ 6; omega, by show (txP u i).size + 1 ≤ 9223372036854775807; omega, ?_⟩, fun hb => ?_⟩, fun h => absurd (by omega) h⟩
        · have e := txP_yes hb
          exact again_of (i + 1) (by refine ⟨?_, ?_, ?_, by omega⟩ <;> (first | (simp (maxSteps := 5000000) -dsimp only [gr, Nat.reduceEqDiff, Nat.reduceLT, Nat.reduceAdd, Nat.reduceMod, Nat.reduceBEq, sid_mod, sid_ne1, sid_ne2, sid_inj, h0a, h3a, h4a, hw, e]; first | done | rfl | (simp; done)) | assumption | rfl)) (by first | omega | (simp only; omega) | (dsimp only; omega) | (show _ < _; simp; omega))
        · have e := txP_no hb
          exact again_of (i + 1) (by refine ⟨?_, ?_, ?_, by omega⟩ <;> (first | (simp (maxSteps := 5000000) -dsimp only [gr, Nat.reduceEqDiff, Nat.reduceLT, Nat.reduceAdd, Nat.reduceMod, Nat.reduceBEq, sid_mod, sid_ne1, sid_ne2, sid_inj, h0a, h3a, h4a, hw, e]; first | done | rfl | (simp; done)) | assumption | rfl)) (by first | omega | (simp only; omega) | (dsimp only; omega) | (show _ < _; simp; omega))
      · simp (maxSteps := 5000000) -dsimp only [↓gp, gq, reduceCtorEq, Nat.reduceEqDiff, Nat.reduceLT, Nat.reduceLeDiff, Nat.reduceAdd, Nat.reduceMul, Nat.reduceSub, Nat.reduceBEq, Int.reduceToNat, Int.reduceLE, Int.reduceLT, Int.reduceNeg, Nat.reduceMod, sid_ne1, sid_ne2, sid_inj, sid_mod, gT, TK.isInt, TK.agg, Array.toList, h0a, h3a, h4a, hun]
        refine ⟨fun h => absurd h (by omega), fun _ => ?_⟩
        have : i = 6 := by omega
        rw [this]
theorem c_impl_PointsOf (u : Nat) (hs : u < 64) : AC Tryd.prog 85 [int u] (.fr 3 1 (iL (ofN (ptsP u 6)))) := by
  refine AC.go (rs := [.tmp 2]) T_ok mixed Tryd.func85 rfl rfl rfl (by kernel_rfl) fun hl => ?_
  simp (maxSteps := 5000000) -dsimp only [↓gp, gq, reduceCtorEq, Nat.reduceEqDiff, Nat.reduceLT, Nat.reduceLeDiff, Nat.reduceAdd, Nat.reduceMul, Nat.reduceSub, Nat.reduceBEq, Int.reduceToNat, Int.reduceLE, Int.reduceLT, Int.reduceNeg, Nat.reduceMod, sid_ne1, sid_ne2, sid_inj, sid_mod, gT, TK.isInt, TK.agg, Array.toList]
  refine askK_of (c_impl_IsSet 6 u) ?_
  have hin : inSet 6 (u : Int) = true := by unfold inSet; exact decide_eq_true ⟨by omega, by omega, by omega, by simpa using (by omega : (u : Int) < 64)⟩
  rw [hin]
  simp (maxSteps := 5000000) -dsimp only [↓gp, gq, reduceCtorEq, Nat.reduceEqDiff, Nat.reduceLT, Nat.reduceLeDiff, Nat.reduceAdd, Nat.reduceMul, Nat.reduceSub, Nat.reduceBEq, Int.reduceToNat, Int.reduceLE, Int.reduceLT, Int.reduceNeg, Nat.reduceMod, sid_ne1, sid_ne2, sid_inj, sid_mod, gT, TK.isInt, TK.agg, Array.toList]
  refine loop_of (fun (za : Nat × Nat) s => match za with | (i, v) => s.sl 0 = int u ∧ s.sl 3 = .own 3 v ∧ s.rw 3 = ⟨v, .sli 3 1 false (iL (ofN (ptsP u i)))⟩ ∧ s.sl 4 = int i ∧ (i ≤ 6)) (fun (i, v) => 6 - i) ((0, 1)) (by refine ⟨?_, ?_, ?_, ?_, by omega⟩ <;> (first | (simp (maxSteps := 5000000) -dsimp only [gr, Nat.reduceEqDiff, Nat.reduceLT, Nat.reduceAdd, Nat.reduceMod, Nat.reduceBEq, sid_mod, sid_ne1, sid_ne2, sid_inj]; first | done | rfl | (simp; done)) | assumption | rfl)) ?_
  intro (i, v) sa ⟨h0a, h3a, r3a, h4a, hIa⟩
  have hpl := ptsP_len u i
  have hun : IntKind.u64.wrap (i : Int) = (i : Int) := uwrap_id (by omega)
  by_cases hi : i < 6
  · have hbit := bit_i64 u hs i hi
    simp (maxSteps := 5000000) -dsimp only [↓gp, gq, reduceCtorEq, Nat.reduceEqDiff, Nat.reduceLT, Nat.reduceLeDiff, Nat.reduceAdd, Nat.reduceMul, Nat.reduceSub, Nat.reduceBEq, Int.reduceToNat, Int.reduceLE, Int.reduceLT, Int.reduceNeg, Nat.reduceMod, sid_ne1, sid_ne2, sid_inj, sid_mod, gT, TK.isInt, TK.agg, Array.toList, h0a, h3a, r3a, h4a, hun, hbit]
    refine ⟨fun _ => ⟨fun hb => ⟨by rw [ofN_length]; omega, ?_⟩, fun hb => ?_⟩, fun h => absurd h (by omega)⟩
    · have e : ofN (ptsP u i) ++ [(i : Int)] = ofN (ptsP u (i + 1)) := by rw [ptsP_yes hb, ofN_append, ofN_one]
      exact again_of ((i + 1, v + 1)) (by refine ⟨?_, ?_, ?_, ?_, by dsimp only; omega⟩ <;> (first | (simp (maxSteps := 5000000) -dsimp only [gr, Nat.reduceEqDiff, Nat.reduceLT, Nat.reduceAdd, Nat.reduceMod, Nat.reduceBEq, sid_mod, sid_ne1, sid_ne2, sid_inj, h0a, h3a, r3a, h4a, wrap_nat hi (by omega), e]; first | done | rfl | (simp; done)) | assumption | rfl)) (by first | omega | (simp only; omega) | (dsimp only; omega) | (show _ < _; simp; omega))
    · have e := ptsP_no hb
      exact again_of ((i + 1, v)) (by refine ⟨?_, ?_, ?_, ?_, by dsimp only; omega⟩ <;> (first | (simp (maxSteps := 5000000) -dsimp only [gr, Nat.reduceEqDiff, Nat.reduceLT, Nat.reduceAdd, Nat.reduceMod, Nat.reduceBEq, sid_mod, sid_ne1, sid_ne2, sid_inj, h0a, h3a, r3a, h4a, wrap_nat hi (by omega), e]; first | done | rfl | (simp; done)) | assumption | rfl)) (by first | omega | (simp only; omega) | (dsimp only; omega) | (show _ < _; simp; omega))
  · simp (maxSteps := 5000000) -dsimp only [↓gp, gq, reduceCtorEq, Nat.reduceEqDiff, Nat.reduceLT, Nat.reduceLeDiff, Nat.reduceAdd, Nat.reduceMul, Nat.reduceSub, Nat.reduceBEq, Int.reduceToNat, Int.reduceLE, Int.reduceLT, Int.reduceNeg, Nat.reduceMod, sid_ne1, sid_ne2, sid_inj, sid_mod, gT, TK.isInt, TK.agg, Array.toList, h0a, h3a, r3a, h4a, hun]
    refine ⟨fun h => absurd h (by omega), fun _ => ?_⟩
    have : i = 6 := by omega
    rw [this]
/-- The points' letters, one by one. -/
def lets (l : List Nat) : ByteArray := ⟨(l.map fun j => UInt8.ofNat (97 + j)).toArray⟩
theorem strB_lets (l : List Nat) (i : Nat) (h : i < 6) : strB (lets l) ++ [PV.v (.int .u8 (97 + i : Nat))] = strB (lets (l ++ [i])) := by
  unfold strB lets
  have : (UInt8.ofNat (97 + i)).toNat = 97 + i := by simp; omega
  simp only [List.map_append, List.map_cons, List.map_nil, List.toList_toArray, this]
theorem c_impl_SetText (s : Int) : AC Tryd.prog 69 [int s] (.im (str (setTI s))) := by
  refine AC.go (rs := [.tmp 2]) T_ok mixed Tryd.func69 rfl rfl rfl (by kernel_rfl) fun hl => ?_
  simp (maxSteps := 5000000) -dsimp only [↓gp, gq, reduceCtorEq, Nat.reduceEqDiff, Nat.reduceLT, Nat.reduceLeDiff, Nat.reduceAdd, Nat.reduceMul, Nat.reduceSub, Nat.reduceBEq, Int.reduceToNat, Int.reduceLE, Int.reduceLT, Int.reduceNeg, Nat.reduceMod, sid_ne1, sid_ne2, sid_inj, sid_mod, gT, TK.isInt, TK.agg, Array.toList]
  refine askK_of (c_impl_IsSet 6 s) ?_
  have hin : inSet 6 s = decide (0 ≤ s ∧ s < 64) := by
    unfold inSet
    refine decide_eq_decide.2 ⟨fun h => ⟨h.2.2.1, by simpa using h.2.2.2⟩, fun h => ⟨by omega, by omega, h.1, by simpa using h.2⟩⟩
  rw [hin]
  simp (maxSteps := 5000000) -dsimp only [↓gp, gq, reduceCtorEq, Nat.reduceEqDiff, Nat.reduceLT, Nat.reduceLeDiff, Nat.reduceAdd, Nat.reduceMul, Nat.reduceSub, Nat.reduceBEq, Int.reduceToNat, Int.reduceLE, Int.reduceLT, Int.reduceNeg, Nat.reduceMod, sid_ne1, sid_ne2, sid_inj, sid_mod, gT, TK.isInt, TK.agg, Array.toList]
  unfold setTI
  refine ⟨fun h => ?_, fun h => ?_⟩
  · rw [if_neg (fun hc => by rw [decide_eq_true hc] at h; cases h)]
  · have h : 0 ≤ s ∧ s < 64 := by simpa using h
    rw [if_pos h]
    obtain ⟨u, rfl⟩ : ∃ u : Nat, s = u := ⟨s.toNat, by omega⟩
    rw [Int.toNat_natCast]
    have hu : u < 64 := by omega
    refine ⟨fun h0 => ?_, fun h0 => ?_⟩
    · have : u = 0 := by
        have : (u : Int) = 0 := by simpa using h0
        omega
      rw [this]; rfl
    · have hne : u ≠ 0 := fun e => by rw [e] at h0; simp at h0
      have hse : setTx u = lets (ptsP u 6) := if_neg hne
      rw [hse]
      refine ⟨by decide, askK_of (c_impl_PointsOf u hu) ?_⟩
      simp (maxSteps := 5000000) -dsimp only [↓gp, gq, reduceCtorEq, Nat.reduceEqDiff, Nat.reduceLT, Nat.reduceLeDiff, Nat.reduceAdd, Nat.reduceMul, Nat.reduceSub, Nat.reduceBEq, Int.reduceToNat, Int.reduceLE, Int.reduceLT, Int.reduceNeg, Nat.reduceMod, sid_ne1, sid_ne2, sid_inj, sid_mod, gT, TK.isInt, TK.agg, Array.toList, ofN_length]
      have hpl := ptsP_len u 6
      have hpm : ∀ k, k < (ptsP u 6).length → (ptsP u 6).getD k 0 < 6 := fun k hk => List.mem_range.1 (List.mem_filter.1 (getD_mem 0 hk)).1
      generalize ptsP u 6 = l at *
      have hz0 : lets (l.take 0) = ⟨#[]⟩ := rfl
      refine loop_of (fun (za : Nat × Nat) s => match za with | (k, v) => s.sl 3 = .own 11 v ∧ s.rw 11 = ⟨v, .sli 5 1 false (strB (lets (l.take k)))⟩ ∧ s.sl 13 = .own 13 1 ∧ s.rw 13 = ⟨1, .sli 3 1 false (iL (ofN l))⟩ ∧ s.sl 14 = int l.length ∧ s.sl 15 = int k ∧ (k ≤ l.length)) (fun (k, v) => l.length - k) ((0, 1)) (by refine ⟨?_, ?_, ?_, ?_, ?_, ?_, by omega⟩ <;> (first | (simp (maxSteps := 5000000) -dsimp only [gr, Nat.reduceEqDiff, Nat.reduceLT, Nat.reduceAdd, Nat.reduceMod, Nat.reduceBEq, sid_mod, sid_ne1, sid_ne2, sid_inj, hz0, strB_nil, List.replicate]; first | done | rfl | (simp; done)) | assumption | rfl)) ?_
      intro (k, v) sa ⟨h3a, r11a, h13a, r13a, h14a, h15a, hIa⟩
      have hlen : (strB (lets (l.take k))).length ≤ 6 := by rw [strB_length]; show ((l.take k).map _).toArray.size ≤ 6; simp; omega
      by_cases hk : k < l.length
      · have hge : (ofN l).getD k 0 = ((l.getD k 0 : Nat) : Int) := ofN_getD hk
        have hm := hpm k hk
        have hw := wrap_nat hk (by omega)
        have hw1 : IntKind.i64.wrap (97 + ((l.getD k 0 : Nat) : Int)) = ((97 + l.getD k 0 : Nat) : Int) := by rw [wrap_id (by omega) (by omega)]; rfl
        have hw8 : IntKind.u8.wrap ((97 + l.getD k 0 : Nat) : Int) = ((97 + l.getD k 0 : Nat) : Int) := by
          generalize l.getD k 0 = x at hm
          simp [IntKind.wrap, IntKind.bits, IntKind.signed]
          omega
        have e : strB (lets (l.take k)) ++ [PV.v (.int .u8 (97 + l.getD k 0 : Nat))] = strB (lets (l.take (k + 1))) := by rw [strB_lets _ _ hm, take_snoc 0 hk]
        simp (maxSteps := 5000000) -dsimp only [↓gp, gq, reduceCtorEq, Nat.reduceEqDiff, Nat.reduceLT, Nat.reduceLeDiff, Nat.reduceAdd, Nat.reduceMul, Nat.reduceSub, Nat.reduceBEq, Int.reduceToNat, Int.reduceLE, Int.reduceLT, Int.reduceNeg, Nat.reduceMod, sid_ne1, sid_ne2, sid_inj, sid_mod, gT, TK.isInt, TK.agg, Array.toList, h3a, r11a, h13a, r13a, h14a, h15a, ofN_length, hge, hw1, hw8, lit_u8, conv_own, cvRow_strB]
        refine ⟨fun _ => ⟨hk, hk, ?_, by omega, again_of ((k + 1, v + 1)) (by refine ⟨?_, ?_, ?_, ?_, ?_, ?_, by dsimp only; omega⟩ <;> (first | (simp (maxSteps := 5000000) -dsimp only [gr, Nat.reduceEqDiff, Nat.reduceLT, Nat.reduceAdd, Nat.reduceMod, Nat.reduceBEq, sid_mod, sid_ne1, sid_ne2, sid_inj, h3a, r11a, h13a, r13a, h14a, h15a, hw, e]; first | done | rfl | (simp; done)) | assumption | rfl)) (by first | omega | (simp only; omega) | (dsimp only; omega) | (show _ < _; simp; omega))⟩, fun h => absurd hk h⟩
        intro p hp
        rw [List.mem_singleton.1 hp]; rfl
      · simp (maxSteps := 5000000) -dsimp only [↓gp, gq, reduceCtorEq, Nat.reduceEqDiff, Nat.reduceLT, Nat.reduceLeDiff, Nat.reduceAdd, Nat.reduceMul, Nat.reduceSub, Nat.reduceBEq, Int.reduceToNat, Int.reduceLE, Int.reduceLT, Int.reduceNeg, Nat.reduceMod, sid_ne1, sid_ne2, sid_inj, sid_mod, gT, TK.isInt, TK.agg, Array.toList, h3a, r11a, h13a, r13a, h14a, h15a, ofN_length, conv_own, cvRow_strB]
        refine ⟨fun h => absurd h hk, fun _ => ?_⟩
        rw [List.take_of_length_le (by omega)]
end Go.Proofs.YtmpjajhklilleaaDoor
