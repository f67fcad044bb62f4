/- DERIVED by an AI agent. -/
import Derived.Test.YtlapkhmehcnjeaaQ6
import Derived.Test.YtlapkhmehcnjeaaQ7
namespace Go.Proofs.Ytlapkhmehcnjeaa
open Go.Abs
set_option linter.unusedSimpArgs false
set_option linter.unusedVariables false

/-- A complex, checked by counting bits. -/
def cx6 (n : Nat) (l : List Nat) : Bool := decide (1 ≤ n) && decide (n ≤ 6) && (List.range l.length).all fun k =>
  decide (l.getD k 0 < 2 ^ n) && (decide (k = 0) || (if pop6 (l.getD (k - 1) 0) = pop6 (l.getD k 0) then decide (l.getD (k - 1) 0 < l.getD k 0) else decide (pop6 (l.getD (k - 1) 0) < pop6 (l.getD k 0)))) &&
  (List.range k).all fun i => !(l.getD i 0 &&& l.getD k 0 == l.getD i 0)
theorem ofN_at {l : List Nat} {k : Nat} (h : k < l.length) : (ofN l).getD k 0 = ((l.getD k 0 : Nat) : Int) := ofN_getD h
theorem cx6_ok {n : Nat} {l : List Nat} (h : cx6 n l = true) : cxP n (ofN l) := by
  unfold cx6 at h
  simp only [Bool.and_eq_true, decide_eq_true_eq, List.all_eq_true, List.mem_range, Bool.or_eq_true, Bool.not_eq_true'] at h
  obtain ⟨⟨h1, h6⟩, hall⟩ := h
  refine ⟨by omega, by omega, fun k hk => ?_⟩
  rw [ofN_length] at hk
  obtain ⟨⟨ha, hb⟩, hc⟩ := hall k hk
  have hp := two_pow_le h6
  have hk64 : l.getD k 0 < 64 := by omega
  have at64 : ∀ i, i < l.length → l.getD i 0 < 64 := fun i hi => by have := (hall i hi).1.1; omega
  refine ⟨?_, fun h0 => ?_, fun i hi => ?_⟩
  · rw [ofN_at hk]
    unfold inSet
    refine decide_eq_true ⟨by omega, by omega, by omega, ?_⟩
    rw [pow_nat]
    omega
  · have hb := hb.resolve_left (by omega)
    have hj64 := at64 (k - 1) (by omega)
    rw [ofN_at hk, ofN_at (show k - 1 < l.length by omega)]
    generalize l.getD (k - 1) 0 = a at *
    generalize l.getD k 0 = b at *
    have ea : szOf (a : Int) = (pop6 a : Nat) := by rw [szOf, if_pos (by omega), Int.toNat_natCast, popN_6 hj64]
    have eb : szOf (b : Int) = (pop6 b : Nat) := by rw [szOf, if_pos (by omega), Int.toNat_natCast, popN_6 hk64]
    unfold befS
    rw [ea, eb, decide_eq_true (show (0 : Int) ≤ a ∧ (a : Int) < 64 by omega), decide_eq_true (show (0 : Int) ≤ b ∧ (b : Int) < 64 by omega)]
    simp only [Bool.true_and]
    by_cases he : pop6 a = pop6 b
    · rw [if_pos he] at hb
      rw [if_pos (by omega)]
      exact decide_eq_true (by have := of_decide_eq_true hb; omega)
    · rw [if_neg he] at hb
      rw [if_neg (by omega)]
      exact decide_eq_true (by have := of_decide_eq_true hb; omega)
  · have hq := hc i hi
    have hi64 := at64 i (by omega)
    rw [ofN_at hk, ofN_at (show i < l.length by omega), iand_nat (by omega) (by omega)]
    intro e
    have e : l.getD i 0 &&& l.getD k 0 = l.getD i 0 := Int.ofNat.inj e
    rw [e] at hq
    simp at hq
theorem facs_ofN (ps : List ByteArray) : facs ps = ofN (ps.map fun p => setV p p.size) := by
  unfold facs ofN
  rw [List.map_map]; rfl
/-- All but the sets' checks are plain sums. -/
theorem okText {t rest : ByteArray} {n : Nat} {ps : List ByteArray} (size : decide (2 ≤ t.size ∧ t.size ≤ 1000) = true) (pts : decide (1 ≤ n ∧ n ≤ 6) = true) (b0 : byt t 0 = 48 + n) (b1 : byt t 1 = 58) (tail : t.extract 2 t.size = rest)
    (rsize : decide (rest.size ≤ 1000) = true) (full : (rest.toList == (⟨#[]⟩ : ByteArray).toList) = false) (parts : splitB rest 44 = ps) (plen : decide (0 < ps.length ∧ ps.length ≤ 1000) = true) (sets : ps.all okSet = true)
    (head : splitB t 58 = [chr n, rest]) (cx : cx6 n (ps.map fun p => setV p p.size) = true) : OkText t n rest ps :=
  ⟨of_decide_eq_true size, of_decide_eq_true pts, b0, b1, tail, of_decide_eq_true rsize, full, parts, (of_decide_eq_true plen).2, (of_decide_eq_true plen).1, fun p hp => okSet_ok (List.all_eq_true.1 sets p hp), head, by rw [facs_ofN]; exact cx6_ok cx⟩
def ex1 : ByteArray := ⟨#[52, 58, 97, 98, 99, 44, 97, 98, 100, 44, 97, 99, 100, 44, 98, 99, 100]⟩
def ps1 : List ByteArray := [⟨#[97, 98, 99]⟩, ⟨#[97, 98, 100]⟩, ⟨#[97, 99, 100]⟩, ⟨#[98, 99, 100]⟩]
theorem okt1 : OkText ex1 4 ⟨#[97, 98, 99, 44, 97, 98, 100, 44, 97, 99, 100, 44, 98, 99, 100]⟩ ps1 := okText (by kernel_rfl) (by kernel_rfl) (by kernel_rfl) (by kernel_rfl) (by kernel_rfl) (by kernel_rfl) (by kernel_rfl) (by kernel_rfl) (by kernel_rfl) (by kernel_rfl) (by kernel_rfl) (by kernel_rfl)
def ex2 : ByteArray := ⟨#[54, 58, 97, 99, 100, 44, 98, 99, 100, 44, 97, 98, 101, 44, 97, 99, 101, 44, 98, 100, 101, 44, 97, 98, 102, 44, 98, 99, 102, 44, 97, 100, 102, 44, 99, 101, 102, 44, 100, 101, 102]⟩
def ps2 : List ByteArray := [⟨#[97, 99, 100]⟩, ⟨#[98, 99, 100]⟩, ⟨#[97, 98, 101]⟩, ⟨#[97, 99, 101]⟩, ⟨#[98, 100, 101]⟩, ⟨#[97, 98, 102]⟩, ⟨#[98, 99, 102]⟩, ⟨#[97, 100, 102]⟩, ⟨#[99, 101, 102]⟩, ⟨#[100, 101, 102]⟩]
theorem okt2 : OkText ex2 6 ⟨#[97, 99, 100, 44, 98, 99, 100, 44, 97, 98, 101, 44, 97, 99, 101, 44, 98, 100, 101, 44, 97, 98, 102, 44, 98, 99, 102, 44, 97, 100, 102, 44, 99, 101, 102, 44, 100, 101, 102]⟩ ps2 := okText (by kernel_rfl) (by kernel_rfl) (by kernel_rfl) (by kernel_rfl) (by kernel_rfl) (by kernel_rfl) (by kernel_rfl) (by kernel_rfl) (by kernel_rfl) (by kernel_rfl) (by kernel_rfl) (by kernel_rfl)
def ex3 : ByteArray := ⟨#[53, 58, 97, 98, 44, 98, 99, 44, 99, 100, 44, 97, 101, 44, 100, 101]⟩
def ps3 : List ByteArray := [⟨#[97, 98]⟩, ⟨#[98, 99]⟩, ⟨#[99, 100]⟩, ⟨#[97, 101]⟩, ⟨#[100, 101]⟩]
theorem okt3 : OkText ex3 5 ⟨#[97, 98, 44, 98, 99, 44, 99, 100, 44, 97, 101, 44, 100, 101]⟩ ps3 := okText (by kernel_rfl) (by kernel_rfl) (by kernel_rfl) (by kernel_rfl) (by kernel_rfl) (by kernel_rfl) (by kernel_rfl) (by kernel_rfl) (by kernel_rfl) (by kernel_rfl) (by kernel_rfl) (by kernel_rfl)
def ex4 : ByteArray := ⟨#[53, 58, 97, 98, 99, 44, 99, 100, 101]⟩
def ps4 : List ByteArray := [⟨#[97, 98, 99]⟩, ⟨#[99, 100, 101]⟩]
theorem okt4 : OkText ex4 5 ⟨#[97, 98, 99, 44, 99, 100, 101]⟩ ps4 := okText (by kernel_rfl) (by kernel_rfl) (by kernel_rfl) (by kernel_rfl) (by kernel_rfl) (by kernel_rfl) (by kernel_rfl) (by kernel_rfl) (by kernel_rfl) (by kernel_rfl) (by kernel_rfl) (by kernel_rfl)
def ex5 : ByteArray := ⟨#[54, 58, 97, 98, 99, 44, 97, 99, 100, 44, 97, 98, 101, 44, 97, 100, 101, 44, 98, 99, 102, 44, 99, 100, 102, 44, 98, 101, 102, 44, 100, 101, 102]⟩
def ps5 : List ByteArray := [⟨#[97, 98, 99]⟩, ⟨#[97, 99, 100]⟩, ⟨#[97, 98, 101]⟩, ⟨#[97, 100, 101]⟩, ⟨#[98, 99, 102]⟩, ⟨#[99, 100, 102]⟩, ⟨#[98, 101, 102]⟩, ⟨#[100, 101, 102]⟩]
theorem okt5 : OkText ex5 6 ⟨#[97, 98, 99, 44, 97, 99, 100, 44, 97, 98, 101, 44, 97, 100, 101, 44, 98, 99, 102, 44, 99, 100, 102, 44, 98, 101, 102, 44, 100, 101, 102]⟩ ps5 := okText (by kernel_rfl) (by kernel_rfl) (by kernel_rfl) (by kernel_rfl) (by kernel_rfl) (by kernel_rfl) (by kernel_rfl) (by kernel_rfl) (by kernel_rfl) (by kernel_rfl) (by kernel_rfl) (by kernel_rfl)
def ex6 : ByteArray := ⟨#[54, 58, 97, 98, 44, 99, 100, 44, 101, 102]⟩
def ps6 : List ByteArray := [⟨#[97, 98]⟩, ⟨#[99, 100]⟩, ⟨#[101, 102]⟩]
theorem okt6 : OkText ex6 6 ⟨#[97, 98, 44, 99, 100, 44, 101, 102]⟩ ps6 := okText (by kernel_rfl) (by kernel_rfl) (by kernel_rfl) (by kernel_rfl) (by kernel_rfl) (by kernel_rfl) (by kernel_rfl) (by kernel_rfl) (by kernel_rfl) (by kernel_rfl) (by kernel_rfl) (by kernel_rfl)
def ex7 : ByteArray := ⟨#[52, 58, 97, 98, 44, 98, 99, 44, 99, 100]⟩
def ps7 : List ByteArray := [⟨#[97, 98]⟩, ⟨#[98, 99]⟩, ⟨#[99, 100]⟩]
theorem okt7 : OkText ex7 4 ⟨#[97, 98, 44, 98, 99, 44, 99, 100]⟩ ps7 := okText (by kernel_rfl) (by kernel_rfl) (by kernel_rfl) (by kernel_rfl) (by kernel_rfl) (by kernel_rfl) (by kernel_rfl) (by kernel_rfl) (by kernel_rfl) (by kernel_rfl) (by kernel_rfl) (by kernel_rfl)
def ex8 : ByteArray := ⟨#[53, 58, 97, 98, 99, 44, 97, 98, 100, 44, 99, 100, 101]⟩
def ps8 : List ByteArray := [⟨#[97, 98, 99]⟩, ⟨#[97, 98, 100]⟩, ⟨#[99, 100, 101]⟩]
theorem okt8 : OkText ex8 5 ⟨#[97, 98, 99, 44, 97, 98, 100, 44, 99, 100, 101]⟩ ps8 := okText (by kernel_rfl) (by kernel_rfl) (by kernel_rfl) (by kernel_rfl) (by kernel_rfl) (by kernel_rfl) (by kernel_rfl) (by kernel_rfl) (by kernel_rfl) (by kernel_rfl) (by kernel_rfl) (by kernel_rfl)
def exText (k : Int) : ByteArray := if k = 1 then ex1 else if k = 2 then ex2 else if k = 3 then ex3 else if k = 4 then ex4 else if k = 5 then ex5 else if k = 6 then ex6 else if k = 7 then ex7 else if k = 8 then ex8 else ⟨#[]⟩
def exPts (k : Int) : Nat := if k = 1 then 4 else if k = 2 then 6 else if k = 3 then 5 else if k = 4 then 5 else if k = 5 then 6 else if k = 6 then 6 else if k = 7 then 4 else if k = 8 then 5 else 0
def exPs (k : Int) : List ByteArray := if k = 1 then ps1 else if k = 2 then ps2 else if k = 3 then ps3 else if k = 4 then ps4 else if k = 5 then ps5 else if k = 6 then ps6 else if k = 7 then ps7 else if k = 8 then ps8 else []
theorem exText_out {k : Int} (h : ¬ (1 ≤ k ∧ k ≤ 8)) : exText k = ⟨#[]⟩ := by
  unfold exText
  rw [if_neg (by omega)]
  rw [if_neg (by omega)]
  rw [if_neg (by omega)]
  rw [if_neg (by omega)]
  rw [if_neg (by omega)]
  rw [if_neg (by omega)]
  rw [if_neg (by omega)]
  rw [if_neg (by omega)]
theorem exPts_out {k : Int} (h : ¬ (1 ≤ k ∧ k ≤ 8)) : exPts k = 0 := by
  unfold exPts
  rw [if_neg (by omega)]
  rw [if_neg (by omega)]
  rw [if_neg (by omega)]
  rw [if_neg (by omega)]
  rw [if_neg (by omega)]
  rw [if_neg (by omega)]
  rw [if_neg (by omega)]
  rw [if_neg (by omega)]
theorem exPs_out {k : Int} (h : ¬ (1 ≤ k ∧ k ≤ 8)) : exPs k = [] := by
  unfold exPs
  rw [if_neg (by omega)]
  rw [if_neg (by omega)]
  rw [if_neg (by omega)]
  rw [if_neg (by omega)]
  rw [if_neg (by omega)]
  rw [if_neg (by omega)]
  rw [if_neg (by omega)]
  rw [if_neg (by omega)]
theorem exText_in {k : Int} (h : 1 ≤ k ∧ k ≤ 8) : ∃ rest, OkText (exText k) (exPts k) rest (exPs k) := by
  have : k = 1 ∨ k = 2 ∨ k = 3 ∨ k = 4 ∨ k = 5 ∨ k = 6 ∨ k = 7 ∨ k = 8 := by omega
  rcases this with rfl | rfl | rfl | rfl | rfl | rfl | rfl | rfl
  · exact ⟨_, okt1⟩
  · exact ⟨_, okt2⟩
  · exact ⟨_, okt3⟩
  · exact ⟨_, okt4⟩
  · exact ⟨_, okt5⟩
  · exact ⟨_, okt6⟩
  · exact ⟨_, okt7⟩
  · exact ⟨_, okt8⟩
theorem ex_eq {k j : Int} {b : ByteArray} (e : (k == j) = true) (h : exText j = b) : exText k = b := by rw [beq_iff_eq.1 e]; exact h
theorem c_impl_ExampleText (k : Int) : AC Try.prog 84 [int k] (.im (str (exText k))) := by
  refine AC.go (rs := [.tmp 2]) T_ok mixed Try.func84 rfl rfl rfl (by kernel_rfl) fun hl => ?_
  simp (maxSteps := 5000000) -dsimp only [↓gp, gq, reduceCtorEq, Nat.reduceEqDiff, Nat.reduceLT, Nat.reduceLeDiff, Nat.reduceAdd, Nat.reduceMul, Nat.reduceSub, Nat.reduceBEq, Int.reduceToNat, Int.reduceLE, Int.reduceLT, Int.reduceNeg, Nat.reduceMod, sid_ne1, sid_ne2, sid_inj, sid_mod, gT, TK.isInt, TK.agg, Array.toList]
  exact ⟨fun e => ex_eq e rfl, fun n1 => ⟨fun e => ex_eq e rfl, fun n2 => ⟨fun e => ex_eq e rfl, fun n3 => ⟨fun e => ex_eq e rfl, fun n4 => ⟨fun e => ex_eq e rfl, fun n5 => ⟨fun e => ex_eq e rfl, fun n6 => ⟨fun e => ex_eq e rfl, fun n7 => ⟨fun e => ex_eq e rfl, fun n8 => exText_out (by have := beq_eq_false_iff_ne.1 n1; have := beq_eq_false_iff_ne.1 n2; have := beq_eq_false_iff_ne.1 n3; have := beq_eq_false_iff_ne.1 n4; have := beq_eq_false_iff_ne.1 n5; have := beq_eq_false_iff_ne.1 n6; have := beq_eq_false_iff_ne.1 n7; have := beq_eq_false_iff_ne.1 n8; omega)⟩⟩⟩⟩⟩⟩⟩⟩
theorem c_spec_ExampleText (k : Int) : AC Try.prog 82 [int k] (.im (str (exText k))) := by
  refine AC.go (rs := [.tmp 2]) T_ok mixed Try.func82 rfl rfl rfl (by kernel_rfl) fun hl => ?_
  simp (maxSteps := 5000000) -dsimp only [↓gp, gq, reduceCtorEq, Nat.reduceEqDiff, Nat.reduceLT, Nat.reduceLeDiff, Nat.reduceAdd, Nat.reduceMul, Nat.reduceSub, Nat.reduceBEq, Int.reduceToNat, Int.reduceLE, Int.reduceLT, Int.reduceNeg, Nat.reduceMod, sid_ne1, sid_ne2, sid_inj, sid_mod, gT, TK.isInt, TK.agg, Array.toList]
  exact ⟨fun e => ex_eq e rfl, fun n1 => ⟨fun e => ex_eq e rfl, fun n2 => ⟨fun e => ex_eq e rfl, fun n3 => ⟨fun e => ex_eq e rfl, fun n4 => ⟨fun e => ex_eq e rfl, fun n5 => ⟨fun e => ex_eq e rfl, fun n6 => ⟨fun e => ex_eq e rfl, fun n7 => ⟨fun e => ex_eq e rfl, fun n8 => exText_out (by have := beq_eq_false_iff_ne.1 n1; have := beq_eq_false_iff_ne.1 n2; have := beq_eq_false_iff_ne.1 n3; have := beq_eq_false_iff_ne.1 n4; have := beq_eq_false_iff_ne.1 n5; have := beq_eq_false_iff_ne.1 n6; have := beq_eq_false_iff_ne.1 n7; have := beq_eq_false_iff_ne.1 n8; omega)⟩⟩⟩⟩⟩⟩⟩⟩
theorem c_impl_ParseComplex_0 : AC Try.prog 83 [str ⟨#[]⟩] (.tup [.ag [.im (int 0), .fr 3 1 (iL [])], .im (bool false)]) := by
  refine AC.go (rs := [.cell 2 24, .tmp 3]) T_ok mixed Try.func83 rfl rfl rfl (by kernel_rfl) fun hl => ?_
  simp (maxSteps := 5000000) -dsimp only [↓gp, gq, reduceCtorEq, Nat.reduceEqDiff, Nat.reduceLT, Nat.reduceLeDiff, Nat.reduceAdd, Nat.reduceMul, Nat.reduceSub, Nat.reduceBEq, Int.reduceToNat, Int.reduceLE, Int.reduceLT, Int.reduceNeg, Nat.reduceMod, sid_ne1, sid_ne2, sid_inj, sid_mod, gT, TK.isInt, TK.agg, Array.toList]
  have h0 : AC Try.prog 116 [str ⟨#[]⟩] (.tup [.im (int 0), .im (str ⟨#[]⟩), .im (bool false)]) := by
    refine AC.go (rs := [.tmp 2, .tmp 3, .tmp 4]) T_ok mixed Try.func116 rfl rfl rfl (by kernel_rfl) fun hl => ?_
    have hz : (((⟨#[]⟩ : ByteArray).size : Nat) : Int) = 0 := rfl
    simp (maxSteps := 5000000) -dsimp only [↓gp, gq, reduceCtorEq, Nat.reduceEqDiff, Nat.reduceLT, Nat.reduceLeDiff, Nat.reduceAdd, Nat.reduceMul, Nat.reduceSub, Nat.reduceBEq, Int.reduceToNat, Int.reduceLE, Int.reduceLT, Int.reduceNeg, Nat.reduceMod, sid_ne1, sid_ne2, sid_inj, sid_mod, gT, TK.isInt, TK.agg, Array.toList, hz]
  refine askK_of h0 ?_
  simp (maxSteps := 5000000) -dsimp only [↓gp, gq, reduceCtorEq, Nat.reduceEqDiff, Nat.reduceLT, Nat.reduceLeDiff, Nat.reduceAdd, Nat.reduceMul, Nat.reduceSub, Nat.reduceBEq, Int.reduceToNat, Int.reduceLE, Int.reduceLT, Int.reduceNeg, Nat.reduceMod, sid_ne1, sid_ne2, sid_inj, sid_mod, gT, TK.isInt, TK.agg, Array.toList, adopt_tvvv]
  rfl
theorem c_spec_ParseComplex_0 : AC Try.prog 81 [str ⟨#[]⟩] (.tup [.ag [.im (int 0), .fr 3 1 (iL [])], .im (bool false)]) := by
  refine AC.go (rs := [.cell 2 24, .tmp 3]) T_ok mixed Try.func81 rfl rfl rfl (by kernel_rfl) fun hl => ?_
  simp (maxSteps := 5000000) -dsimp only [↓gp, gq, reduceCtorEq, Nat.reduceEqDiff, Nat.reduceLT, Nat.reduceLeDiff, Nat.reduceAdd, Nat.reduceMul, Nat.reduceSub, Nat.reduceBEq, Int.reduceToNat, Int.reduceLE, Int.reduceLT, Int.reduceNeg, Nat.reduceMod, sid_ne1, sid_ne2, sid_inj, sid_mod, gT, TK.isInt, TK.agg, Array.toList]
  refine askK_of (c_spec_SplitByte ⟨#[]⟩ 58 (by decide)) ?_
  have hz : (((splitB ⟨#[]⟩ 58).length : Nat) : Int) = 1 := rfl
  have hz2 : ((1 : Int) != 2) = true := rfl
  simp (maxSteps := 5000000) -dsimp only [↓gp, gq, reduceCtorEq, Nat.reduceEqDiff, Nat.reduceLT, Nat.reduceLeDiff, Nat.reduceAdd, Nat.reduceMul, Nat.reduceSub, Nat.reduceBEq, Int.reduceToNat, Int.reduceLE, Int.reduceLT, Int.reduceNeg, Nat.reduceMod, sid_ne1, sid_ne2, sid_inj, sid_mod, gT, TK.isInt, TK.agg, Array.toList, sL_length, hz, hz2]
  rfl
theorem c_impl_ExampleComplex (k : Int) : AC Try.prog 54 [int k] (.tup [.ag [.im (int (exPts k)), .fr 3 1 (iL (facs (exPs k)))], .im (bool (decide (1 ≤ k ∧ k ≤ 8)))]) := by
  refine AC.go (rs := [.cell 2 24, .tmp 3]) T_ok mixed Try.func54 rfl rfl rfl (by kernel_rfl) fun hl => ?_
  simp (maxSteps := 5000000) -dsimp only [↓gp, gq, reduceCtorEq, Nat.reduceEqDiff, Nat.reduceLT, Nat.reduceLeDiff, Nat.reduceAdd, Nat.reduceMul, Nat.reduceSub, Nat.reduceBEq, Int.reduceToNat, Int.reduceLE, Int.reduceLT, Int.reduceNeg, Nat.reduceMod, sid_ne1, sid_ne2, sid_inj, sid_mod, gT, TK.isInt, TK.agg, Array.toList]
  refine askK_of (c_impl_ExampleText k) ?_
  by_cases h : 1 ≤ k ∧ k ≤ 8
  · obtain ⟨rest, ht⟩ := exText_in h
    rw [decide_eq_true h]
    simp (maxSteps := 5000000) -dsimp only [↓gp, gq, reduceCtorEq, Nat.reduceEqDiff, Nat.reduceLT, Nat.reduceLeDiff, Nat.reduceAdd, Nat.reduceMul, Nat.reduceSub, Nat.reduceBEq, Int.reduceToNat, Int.reduceLE, Int.reduceLT, Int.reduceNeg, Nat.reduceMod, sid_ne1, sid_ne2, sid_inj, sid_mod, gT, TK.isInt, TK.agg, Array.toList]
    refine askK_of (c_impl_ParseComplex ht) ?_
    simp (maxSteps := 5000000) -dsimp only [↓gp, gq, reduceCtorEq, Nat.reduceEqDiff, Nat.reduceLT, Nat.reduceLeDiff, Nat.reduceAdd, Nat.reduceMul, Nat.reduceSub, Nat.reduceBEq, Int.reduceToNat, Int.reduceLE, Int.reduceLT, Int.reduceNeg, Nat.reduceMod, sid_ne1, sid_ne2, sid_inj, sid_mod, gT, TK.isInt, TK.agg, Array.toList]
  · rw [exText_out h, exPts_out h, exPs_out h, decide_eq_false h]
    simp (maxSteps := 5000000) -dsimp only [↓gp, gq, reduceCtorEq, Nat.reduceEqDiff, Nat.reduceLT, Nat.reduceLeDiff, Nat.reduceAdd, Nat.reduceMul, Nat.reduceSub, Nat.reduceBEq, Int.reduceToNat, Int.reduceLE, Int.reduceLT, Int.reduceNeg, Nat.reduceMod, sid_ne1, sid_ne2, sid_inj, sid_mod, gT, TK.isInt, TK.agg, Array.toList]
    refine askK_of c_impl_ParseComplex_0 ?_
    simp (maxSteps := 5000000) -dsimp only [↓gp, gq, reduceCtorEq, Nat.reduceEqDiff, Nat.reduceLT, Nat.reduceLeDiff, Nat.reduceAdd, Nat.reduceMul, Nat.reduceSub, Nat.reduceBEq, Int.reduceToNat, Int.reduceLE, Int.reduceLT, Int.reduceNeg, Nat.reduceMod, sid_ne1, sid_ne2, sid_inj, sid_mod, gT, TK.isInt, TK.agg, Array.toList, facs, List.map_nil]
    rfl
theorem c_spec_ExampleComplex (k : Int) : AC Try.prog 52 [int k] (.tup [.ag [.im (int (exPts k)), .fr 3 1 (iL (facs (exPs k)))], .im (bool (decide (1 ≤ k ∧ k ≤ 8)))]) := by
  refine AC.go (rs := [.cell 2 24, .tmp 3]) T_ok mixed Try.func52 rfl rfl rfl (by kernel_rfl) fun hl => ?_
  simp (maxSteps := 5000000) -dsimp only [↓gp, gq, reduceCtorEq, Nat.reduceEqDiff, Nat.reduceLT, Nat.reduceLeDiff, Nat.reduceAdd, Nat.reduceMul, Nat.reduceSub, Nat.reduceBEq, Int.reduceToNat, Int.reduceLE, Int.reduceLT, Int.reduceNeg, Nat.reduceMod, sid_ne1, sid_ne2, sid_inj, sid_mod, gT, TK.isInt, TK.agg, Array.toList]
  refine askK_of (c_spec_ExampleText k) ?_
  by_cases h : 1 ≤ k ∧ k ≤ 8
  · obtain ⟨rest, ht⟩ := exText_in h
    rw [decide_eq_true h]
    simp (maxSteps := 5000000) -dsimp only [↓gp, gq, reduceCtorEq, Nat.reduceEqDiff, Nat.reduceLT, Nat.reduceLeDiff, Nat.reduceAdd, Nat.reduceMul, Nat.reduceSub, Nat.reduceBEq, Int.reduceToNat, Int.reduceLE, Int.reduceLT, Int.reduceNeg, Nat.reduceMod, sid_ne1, sid_ne2, sid_inj, sid_mod, gT, TK.isInt, TK.agg, Array.toList]
    refine askK_of (c_spec_ParseComplex ht) ?_
    simp (maxSteps := 5000000) -dsimp only [↓gp, gq, reduceCtorEq, Nat.reduceEqDiff, Nat.reduceLT, Nat.reduceLeDiff, Nat.reduceAdd, Nat.reduceMul, Nat.reduceSub, Nat.reduceBEq, Int.reduceToNat, Int.reduceLE, Int.reduceLT, Int.reduceNeg, Nat.reduceMod, sid_ne1, sid_ne2, sid_inj, sid_mod, gT, TK.isInt, TK.agg, Array.toList]
  · rw [exText_out h, exPts_out h, exPs_out h, decide_eq_false h]
    simp (maxSteps := 5000000) -dsimp only [↓gp, gq, reduceCtorEq, Nat.reduceEqDiff, Nat.reduceLT, Nat.reduceLeDiff, Nat.reduceAdd, Nat.reduceMul, Nat.reduceSub, Nat.reduceBEq, Int.reduceToNat, Int.reduceLE, Int.reduceLT, Int.reduceNeg, Nat.reduceMod, sid_ne1, sid_ne2, sid_inj, sid_mod, gT, TK.isInt, TK.agg, Array.toList]
    refine askK_of c_spec_ParseComplex_0 ?_
    simp (maxSteps := 5000000) -dsimp only [↓gp, gq, reduceCtorEq, Nat.reduceEqDiff, Nat.reduceLT, Nat.reduceLeDiff, Nat.reduceAdd, Nat.reduceMul, Nat.reduceSub, Nat.reduceBEq, Int.reduceToNat, Int.reduceLE, Int.reduceLT, Int.reduceNeg, Nat.reduceMod, sid_ne1, sid_ne2, sid_inj, sid_mod, gT, TK.isInt, TK.agg, Array.toList, facs, List.map_nil]
    rfl
theorem c_laws_markComplex (n : Int) (xs : List Int) (k : Int) (hx : xs.length ≤ 1152921504606846976) (k0 : 0 ≤ k) (k1 : k ≤ 1152921504606846976) : AM Try.prog 35 [.ag [int n, .own 1000000 1], int k] [⟨3, 1, iL xs⟩] [iL (mks k xs.length)] (.int .i64 (k + xs.length)) := by
  refine AM.go (rs := [.tmp 4]) T_ok mixed Try.func35 rfl rfl rfl (by kernel_rfl) (plainR_cons (plain_iL _) plainR_nil) (plains_cons (plain_iL _) plains_nil) rfl fun hl => ?_
  simp (maxSteps := 5000000) -dsimp only [↓gp, gq, reduceCtorEq, Nat.reduceEqDiff, Nat.reduceLT, Nat.reduceLeDiff, Nat.reduceAdd, Nat.reduceMul, Nat.reduceSub, Nat.reduceBEq, Int.reduceToNat, Int.reduceLE, Int.reduceLT, Int.reduceNeg, Nat.reduceMod, sid_ne1, sid_ne2, sid_inj, sid_mod, gT, TK.isInt, TK.agg, Array.toList]
  refine askM_of (c_laws_markIntS xs k hx k0 k1) [(1000000, 1)] (by repeat (first | exact GiveL.nil | refine GiveL.v ?_ | refine GiveL.own 0 rfl ?_ | refine GiveL.own 1 rfl ?_ | refine GiveL.ag ?_ ?_)) ⟨by simp (maxSteps := 5000000) -dsimp only [gr, Nat.reduceEqDiff, Nat.reduceLT, Nat.reduceAdd, Nat.reduceMod, Nat.reduceBEq, sid_mod, sid_ne1, sid_ne2, sid_inj], trivial⟩ (by decide) ?_
  simp (maxSteps := 5000000) -dsimp only [↓gp, gq, reduceCtorEq, Nat.reduceEqDiff, Nat.reduceLT, Nat.reduceLeDiff, Nat.reduceAdd, Nat.reduceMul, Nat.reduceSub, Nat.reduceBEq, Int.reduceToNat, Int.reduceLE, Int.reduceLT, Int.reduceNeg, Nat.reduceMod, sid_ne1, sid_ne2, sid_inj, sid_mod, gT, TK.isInt, TK.agg, Array.toList]
theorem c_laws_heldComplex (m : Int) (k : Int) (n : Nat) (hn : n ≤ 1152921504606846976) (k0 : 0 ≤ k) (k1 : k ≤ 1152921504606846976) : AC Try.prog 55 [.ag [int m, ints (mks k n)], int k] (.im (int (k + n))) := by
  refine AC.go (rs := [.tmp 4]) T_ok mixed Try.func55 rfl rfl rfl (by kernel_rfl) fun hl => ?_
  simp (maxSteps := 5000000) -dsimp only [↓gp, gq, reduceCtorEq, Nat.reduceEqDiff, Nat.reduceLT, Nat.reduceLeDiff, Nat.reduceAdd, Nat.reduceMul, Nat.reduceSub, Nat.reduceBEq, Int.reduceToNat, Int.reduceLE, Int.reduceLT, Int.reduceNeg, Nat.reduceMod, sid_ne1, sid_ne2, sid_inj, sid_mod, gT, TK.isInt, TK.agg, Array.toList]
  refine askK_of (c_laws_heldIntS k n hn k0 k1) ?_
  simp (maxSteps := 5000000) -dsimp only [↓gp, gq, reduceCtorEq, Nat.reduceEqDiff, Nat.reduceLT, Nat.reduceLeDiff, Nat.reduceAdd, Nat.reduceMul, Nat.reduceSub, Nat.reduceBEq, Int.reduceToNat, Int.reduceLE, Int.reduceLT, Int.reduceNeg, Nat.reduceMod, sid_ne1, sid_ne2, sid_inj, sid_mod, gT, TK.isInt, TK.agg, Array.toList]
  intro h
  omega
theorem c_laws_eqComplex (n m : Int) (xs ys : List Int) : AC Try.prog 23 [.ag [int n, ints xs], .ag [int m, ints ys]] (.im (bool (sameG n xs m ys))) := by
  refine AC.go (rs := [.tmp 4]) T_ok mixed Try.func23 rfl rfl rfl (by kernel_rfl) fun hl => ?_
  simp (maxSteps := 5000000) -dsimp only [↓gp, gq, reduceCtorEq, Nat.reduceEqDiff, Nat.reduceLT, Nat.reduceLeDiff, Nat.reduceAdd, Nat.reduceMul, Nat.reduceSub, Nat.reduceBEq, Int.reduceToNat, Int.reduceLE, Int.reduceLT, Int.reduceNeg, Nat.reduceMod, sid_ne1, sid_ne2, sid_inj, sid_mod, gT, TK.isInt, TK.agg, Array.toList]
  unfold sameG
  refine ⟨fun h => ?_, fun h => askK_of (c_laws_eqIntS xs ys) ?_⟩
  · simp at h
    simp [h]
  · simp (maxSteps := 5000000) -dsimp only [↓gp, gq, reduceCtorEq, Nat.reduceEqDiff, Nat.reduceLT, Nat.reduceLeDiff, Nat.reduceAdd, Nat.reduceMul, Nat.reduceSub, Nat.reduceBEq, Int.reduceToNat, Int.reduceLE, Int.reduceLT, Int.reduceNeg, Nat.reduceMod, sid_ne1, sid_ne2, sid_inj, sid_mod, gT, TK.isInt, TK.agg, Array.toList]
    simp at h
    exact ⟨fun h2 => by simpa [h] using h2, fun h2 => by simpa [h] using h2⟩
theorem facsEx_le (k : Int) : (facs (exPs k)).length ≤ 1048576 := by
  by_cases h : 1 ≤ k ∧ k ≤ 8
  · obtain ⟨_, ht⟩ := exText_in h
    have := ht.plen
    unfold facs
    simp
    omega
  · rw [exPs_out h]; decide
end Go.Proofs.Ytlapkhmehcnjeaa

namespace Go.Proofs.Ytlapkhmehcnjeaa
open Go.Abs
set_option linter.unusedSimpArgs false
set_option linter.unusedVariables false

theorem c_laws_szComplex (k : Int) (xs : List Int) (n : Int) (h0 : 0 ≤ n) (h1 : n ≤ 1048576) : AC Try.prog 19 [.ag [int k, ints xs], int n] (.im (int (szI n xs.length))) := by
  refine AC.go (rs := [.tmp 4]) T_ok mixed Try.func19 rfl rfl rfl (by kernel_rfl) fun hl => ?_
  simp (maxSteps := 5000000) -dsimp only [↓gp, gq, reduceCtorEq, Nat.reduceEqDiff, Nat.reduceLT, Nat.reduceLeDiff, Nat.reduceAdd, Nat.reduceMul, Nat.reduceSub, Nat.reduceBEq, Int.reduceToNat, Int.reduceLE, Int.reduceLT, Int.reduceNeg, Nat.reduceMod, sid_ne1, sid_ne2, sid_inj, sid_mod, gT, TK.isInt, TK.agg, Array.toList]
  refine askK_of (c_laws_szIntS xs n h0 h1) ?_
  simp (maxSteps := 5000000) -dsimp only [↓gp, gq, reduceCtorEq, Nat.reduceEqDiff, Nat.reduceLT, Nat.reduceLeDiff, Nat.reduceAdd, Nat.reduceMul, Nat.reduceSub, Nat.reduceBEq, Int.reduceToNat, Int.reduceLE, Int.reduceLT, Int.reduceNeg, Nat.reduceMod, sid_ne1, sid_ne2, sid_inj, sid_mod, gT, TK.isInt, TK.agg, Array.toList]
  have e : (if n - ↑xs.length < 0 then (-1 : Int) else n - ↑xs.length) = szI n xs.length := rfl
  simp only [e]
  refine ⟨fun h => ?_, fun _ => trivial⟩
  unfold szI at h ⊢
  split <;> omega
theorem c_laws_toComplex (n : Int) (xs : List Int) (hx : xs.length ≤ 1048576) : AC Try.prog 21 [.ag [int n, ints xs]] (.ag [.im (int n), .fr 3 1 (iL xs)]) := by
  refine AC.go (rs := [.cell 2 24]) T_ok mixed Try.func21 rfl rfl rfl (by kernel_rfl) fun hl => ?_
  simp (maxSteps := 5000000) -dsimp only [↓gp, gq, reduceCtorEq, Nat.reduceEqDiff, Nat.reduceLT, Nat.reduceLeDiff, Nat.reduceAdd, Nat.reduceMul, Nat.reduceSub, Nat.reduceBEq, Int.reduceToNat, Int.reduceLE, Int.reduceLT, Int.reduceNeg, Nat.reduceMod, sid_ne1, sid_ne2, sid_inj, sid_mod, gT, TK.isInt, TK.agg, Array.toList]
  refine askK_of (c_laws_toIntS xs hx) ?_
  simp (maxSteps := 5000000) -dsimp only [↓gp, gq, reduceCtorEq, Nat.reduceEqDiff, Nat.reduceLT, Nat.reduceLeDiff, Nat.reduceAdd, Nat.reduceMul, Nat.reduceSub, Nat.reduceBEq, Int.reduceToNat, Int.reduceLE, Int.reduceLT, Int.reduceNeg, Nat.reduceMod, sid_ne1, sid_ne2, sid_inj, sid_mod, gT, TK.isInt, TK.agg, Array.toList]
theorem sgnO_le (n : Int) (xs : List Int) (p : Int) : (sgnO n xs p).length ≤ 1048576 := by
  have := (betR_sq n xs p).len
  unfold sgnO; rw [colSums_length]; omega
theorem rowO_le (n : Int) (xs : List Int) (p : Int) : (rowO n xs p).length ≤ 1048576 := by
  have := (betR_sq n xs p).len
  have := lenM_lt (betR n xs p) (betR n xs p).length
  unfold rowO lenO; rw [rowSums_length]; omega
end Go.Proofs.Ytlapkhmehcnjeaa

namespace Go.Proofs.Ytlapkhmehcnjeaa
open Go.Abs
set_option linter.unusedSimpArgs false
set_option linter.unusedVariables false

theorem tabI_got {rw R : Nat → Row} {k v e e2 n : Nat} {M : Mat} (h1 : rw k = ⟨v, .tab e (tabCells R k 0 n)⟩) (hR : ∀ j, j < n → (R (sid k j)).ver = 0) (h2 : ∀ j, j < n → rw (sid k j) = ⟨1, .sli e2 1 false (iL (M.getD j []))⟩) (hn : M.length = n) : TabI rw k v e e2 (List.range n) M := by
  refine ⟨⟨by rw [h1, tabCells_eq R k n hR], by simp [hn], fun j hj => ?_⟩, List.nodup_range⟩
  have hj : j < n := by simpa using hj
  have e1 : (List.range n).getD j 0 = j := by simp [List.getD, hj]
  rw [e1, mapI_getD]; exact h2 j hj
/-- A table handed over, the state told by what it holds. -/
theorem askTab_of {P : Program} {s : St} {K : St → Prop} {f : FuncId} {args raw : List PV} {Ka : RV → Prop} {d e e2 : Nat} {us : Dm s} {u : Dm K} {M : Mat} (h : AC P f args (.tb e e2 (M.map iL))) (hd : ∀ i, i < M.length → (s.rw (sid d i)).ver = 0)
    (hk : ∀ S : St, TabI S.rw d ((s.rw d).ver + 1) e e2 (List.range M.length) M → S.sl d = .own d ((s.rw d).ver + 1) → (∀ t, t ≠ d → S.sl t = s.sl t) → (∀ j, (j % 1000 == d % 1000) = false → S.rw j = s.rw j) → K S) : askK P f args Ka (askR P f args raw (some d) (kk s us) (kk K u)) :=
  askWk_of _ h (Wk.refl _) (hk _ ⟨by
    have := adoptT_is (s := s) d e e2 (M.map iL) (fun i hi => hd i (by simpa using hi))
    rwa [List.length_map] at this, List.nodup_range⟩ (adoptT_sl d e e2 _) (fun t ht => adoptT_slne d e e2 t _ ht) (fun j hj => adoptT_rw d e e2 j _ hj))
theorem askTabM_of {P : Program} {s : St} {K : St → Prop} {f : FuncId} {args raw lent : List PV} {Ka : RV → Prop} {d e e2 k v : Nat} {us : Dm s} {u : Dm K} {M M' : Mat} {p : List Nat} {x : Value} (h : AT P f args e e2 (M.map iL) (M'.map iL) (.rv (.im (.v x)))) (hg : GiveL [(k, v)] raw args) (ht : TabI s.rw k v e e2 p M) (hl : M'.length = M.length) (hdk : d % 1000 ≠ k % 1000)
    (hk : ∀ (S : St) (q : List Nat), TabI S.rw k v e e2 q M' → q.length = M'.length → S.sl d = .v x → (∀ t, t ≠ d → S.sl t = s.sl t) → (∀ j, (j % 1000 == k % 1000) = false → S.rw j = s.rw j) → K S) : askK P f lent Ka (askR P f lent raw (some d) (kk s us) (kk K u)) := by
  refine askT_of h hg ht.is ht.nd fun p' hp' => ?_
  have hpl : p'.length = (M'.map iL).length := by rw [hp'.length_eq, ht.len]; simp [hl]
  have hn := hp'.nodup_iff.2 ht.nd
  have h0 : TabI (s.tabbed k v e e2 p' (M'.map iL)).rw k v e e2 p' M' := ⟨⟨tabbed_top .., hpl, fun i hi => tabbed_row hn hi⟩, hn⟩
  refine ⟨hdk, ?_⟩
  rw [adopt_im]
  exact hk _ p' h0 (by simpa using hpl) (put_sl_same ..) (fun t ht => put_sl_ne _ _ _ _ ht) (fun j hj => tabbed_rw _ _ _ _ _ _ _ hj)
theorem lend_tabI {rw : Nat → Row} {k v e e2 : Nat} {p : List Nat} {M : Mat} (h : TabI rw k v e e2 p M) (rw' : Nat → Row) (hr : ∀ j, rw' (sid k j) = rw (sid k j)) : (cellsT k p).map (lendC rw') = iLL M := by
  rw [← mapT_I, ← lend_cellsT h.is]
  refine List.map_congr_left fun c hc => ?_
  obtain ⟨j, _, rfl⟩ := List.mem_map.1 hc
  simp only [lendC, hr]
/-- The lengths of the first rows. -/
def sumL (M : Mat) : Nat → Nat | 0 => 0 | i + 1 => sumL M i + (M.getD i []).length
/-- The first rows marked. -/
def mixM (k : Int) (M : Mat) (i : Nat) : Mat := (List.range M.length).map fun j => if j < i then mks (k + sumL M j) (M.getD j []).length else M.getD j []
theorem mixM_length (k : Int) (M : Mat) (i : Nat) : (mixM k M i).length = M.length := by simp [mixM]
theorem mixM_getD (k : Int) (M : Mat) (i : Nat) {j : Nat} (h : j < M.length) : (mixM k M i).getD j [] = if j < i then mks (k + sumL M j) (M.getD j []).length else M.getD j [] := by simp [mixM, List.getD, h]
theorem mixM_zero (k : Int) (M : Mat) : mixM k M 0 = M := by
  refine List.ext_getElem (by simp [mixM]) fun j a b => ?_
  simp [mixM, List.getD, b]
theorem mixM_set (k : Int) (M : Mat) {i : Nat} (h : i < M.length) : (mixM k M i).set i (mks (k + sumL M i) (M.getD i []).length) = mixM k M (i + 1) := by
  refine List.ext_getElem (by simp [mixM]) fun j a b => ?_
  rw [List.getElem_set]
  simp only [mixM, List.getElem_map, List.getElem_range]
  by_cases e : i = j
  · subst e; simp
  · rw [if_neg e]
    by_cases h1 : j < i
    · rw [if_pos h1, if_pos (by omega)]
    · rw [if_neg h1, if_neg (by omega)]
theorem sumL_le {M : Mat} (h : SqB M) : ∀ i : Nat, i ≤ M.length → sumL M i ≤ 7 * i := by
  intro i
  induction i with
  | zero => intro _; simp [sumL]
  | succ i ih =>
    intro hi
    have := ih (by omega)
    have h2 := h.row i (by omega)
    have h3 := h.len
    unfold sumL
    omega
theorem c_laws_markIntSS (M : Mat) (hsq : SqB M) : AT Try.prog 41 [.own 1000000 1, int 1] 22 3 (M.map iL) ((mixM 1 M M.length).map iL) (.rv (.im (int (1 + (sumL M M.length : Int))))) := by
  refine AT.goI (rs := [.tmp 4]) T_ok mixed Try.func41 rfl rfl rfl (by kernel_rfl) (mixM_length _ _ _) fun hl s hs hlow ht => ?_
  have hl7 := hsq.len
  simp (maxSteps := 5000000) -dsimp only [↓gp, gq, reduceCtorEq, Nat.reduceEqDiff, Nat.reduceLT, Nat.reduceLeDiff, Nat.reduceAdd, Nat.reduceMul, Nat.reduceSub, Nat.reduceBEq, Int.reduceToNat, Int.reduceLE, Int.reduceLT, Int.reduceNeg, Nat.reduceMod, sid_ne1, sid_ne2, sid_inj, sid_mod, gT, TK.isInt, TK.agg, Array.toList, hs, hlow, ht.top]
  refine loop_of (fun (i : Nat) s => s.sl 0 = .own 1000000 1 ∧ s.sl 1 = int (1 + (sumL M i : Int)) ∧ s.sl 5 = int i ∧ (i ≤ M.length ∧ TabI s.rw 1000000 1 22 3 (List.range M.length) (mixM 1 M i))) (fun i => M.length - i) (0) (by refine ⟨?_, ?_, ?_, ⟨by omega, by rw [mixM_zero]; exact ht.same (by simp (maxSteps := 5000000) -dsimp only [gr, Nat.reduceEqDiff, Nat.reduceLT, Nat.reduceAdd, Nat.reduceMod, Nat.reduceBEq, sid_mod, sid_ne1, sid_ne2, sid_inj]) (fun x => by simp (maxSteps := 5000000) -dsimp only [gr, Nat.reduceEqDiff, Nat.reduceLT, Nat.reduceAdd, Nat.reduceMod, Nat.reduceBEq, sid_mod, sid_ne1, sid_ne2, sid_inj])⟩⟩ <;> (first | (simp (maxSteps := 5000000) -dsimp only [gr, Nat.reduceEqDiff, Nat.reduceLT, Nat.reduceAdd, Nat.reduceMod, Nat.reduceBEq, sid_mod, sid_ne1, sid_ne2, sid_inj, hs, sumL]; first | done | rfl | (simp; done)) | assumption | rfl)) ?_
  intro i sa ⟨h0a, h1a, h5a, hIa⟩
  obtain ⟨hi, ht1⟩ := hIa
  have hml := mixM_length 1 M i
  have hsl := sumL_le hsq i hi
  simp (maxSteps := 5000000) -dsimp only [↓gp, gq, reduceCtorEq, Nat.reduceEqDiff, Nat.reduceLT, Nat.reduceLeDiff, Nat.reduceAdd, Nat.reduceMul, Nat.reduceSub, Nat.reduceBEq, Int.reduceToNat, Int.reduceLE, Int.reduceLT, Int.reduceNeg, Nat.reduceMod, sid_ne1, sid_ne2, sid_inj, sid_mod, gT, TK.isInt, TK.agg, Array.toList, h0a, h1a, h5a, ht1.top, cellsT_length, List.length_range]
  refine ⟨fun h => ?_, fun h => ?_⟩
  · have hr := ht1.row (i := i) (by omega)
    rw [rangeD h, mixM_getD 1 M i h, if_neg (by omega)] at hr
    have hrl := hsq.row i h
    simp (maxSteps := 5000000) -dsimp only [↓gp, gq, reduceCtorEq, Nat.reduceEqDiff, Nat.reduceLT, Nat.reduceLeDiff, Nat.reduceAdd, Nat.reduceMul, Nat.reduceSub, Nat.reduceBEq, Int.reduceToNat, Int.reduceLE, Int.reduceLT, Int.reduceNeg, Nat.reduceMod, sid_ne1, sid_ne2, sid_inj, sid_mod, gT, TK.isInt, TK.agg, Array.toList, h0a, h1a, h5a, ht1.top, ld_cellsT, rangeD h, hr, List.length_range]
    refine ⟨h, h, askM_of (c_laws_markIntS (M.getD i []) (1 + (sumL M i : Int)) (by omega) (by omega) (by omega)) [(sid 1000000 i, 1)] (by repeat (first | exact GiveL.nil | refine GiveL.v ?_ | refine GiveL.own 0 rfl ?_ | refine GiveL.own 1 rfl ?_ | refine GiveL.ag ?_ ?_)) ⟨by simp (maxSteps := 5000000) -dsimp only [gr, Nat.reduceEqDiff, Nat.reduceLT, Nat.reduceAdd, Nat.reduceMod, Nat.reduceBEq, sid_mod, sid_ne1, sid_ne2, sid_inj, h0a, h1a, h5a, hr], trivial⟩ (by simp) ?_⟩
    have es : 1 + (sumL M i : Int) + (M.getD i []).length = 1 + (sumL M (i + 1) : Int) := by rw [sumL]; omega
    have hms := mixM_set 1 M h
    simp (maxSteps := 5000000) -dsimp only [↓gp, gq, reduceCtorEq, Nat.reduceEqDiff, Nat.reduceLT, Nat.reduceLeDiff, Nat.reduceAdd, Nat.reduceMul, Nat.reduceSub, Nat.reduceBEq, Int.reduceToNat, Int.reduceLE, Int.reduceLT, Int.reduceNeg, Nat.reduceMod, sid_ne1, sid_ne2, sid_inj, sid_mod, gT, TK.isInt, TK.agg, Array.toList, h0a, h1a, h5a, ht1.top, hr, es]
    exact again_of (i + 1) (by refine ⟨?_, ?_, ?_, ⟨by omega, by
      rw [← hms]
      exact ht1.set (i := i) (by omega) (by simp (maxSteps := 5000000) -dsimp only [gr, Nat.reduceEqDiff, Nat.reduceLT, Nat.reduceAdd, Nat.reduceMod, Nat.reduceBEq, sid_mod, sid_ne1, sid_ne2, sid_inj, h0a, h1a, h5a]) (by simp (maxSteps := 5000000) -dsimp only [gr, Nat.reduceEqDiff, Nat.reduceLT, Nat.reduceAdd, Nat.reduceMod, Nat.reduceBEq, sid_mod, sid_ne1, sid_ne2, sid_inj, rangeD h, h0a, h1a, h5a, hr]) (fun x hx => by simp (maxSteps := 5000000) -dsimp only [gr, Nat.reduceEqDiff, Nat.reduceLT, Nat.reduceAdd, Nat.reduceMod, Nat.reduceBEq, sid_mod, sid_ne1, sid_ne2, sid_inj, rangeD h ▸ hx])⟩⟩ <;> (first | (simp (maxSteps := 5000000) -dsimp only [gr, Nat.reduceEqDiff, Nat.reduceLT, Nat.reduceAdd, Nat.reduceMod, Nat.reduceBEq, sid_mod, sid_ne1, sid_ne2, sid_inj, h0a, h1a, h5a, wrap_nat h (by omega), es]; first | done | rfl | (simp; done)) | assumption | rfl)) (by first | omega | (simp only; omega) | (dsimp only; omega) | (show _ < _; simp; omega))
  · have : i = M.length := by omega
    subst this
    exact ⟨tabEnd_of ht1 (List.Perm.refl _), rfl⟩
theorem c_laws_heldIntSS (M : Mat) (hsq : SqB M) : AC Try.prog 42 [int2 (mixM 1 M M.length), int 1] (.im (int (1 + (sumL M M.length : Int)))) := by
  refine AC.go (rs := [.tmp 4]) T_ok mixed Try.func42 rfl rfl rfl (by kernel_rfl) fun hl => ?_
  have hl7 := hsq.len
  have hml := mixM_length 1 M M.length
  simp (maxSteps := 5000000) -dsimp only [↓gp, gq, reduceCtorEq, Nat.reduceEqDiff, Nat.reduceLT, Nat.reduceLeDiff, Nat.reduceAdd, Nat.reduceMul, Nat.reduceSub, Nat.reduceBEq, Int.reduceToNat, Int.reduceLE, Int.reduceLT, Int.reduceNeg, Nat.reduceMod, sid_ne1, sid_ne2, sid_inj, sid_mod, gT, TK.isInt, TK.agg, Array.toList]
  refine loop_of (fun (i : Nat) s => s.sl 0 = int2 (mixM 1 M M.length) ∧ s.sl 1 = int (1 + (sumL M i : Int)) ∧ s.sl 5 = int i ∧ (i ≤ M.length)) (fun i => M.length - i) (0) (by refine ⟨?_, ?_, ?_, by omega⟩ <;> (first | (simp (maxSteps := 5000000) -dsimp only [gr, Nat.reduceEqDiff, Nat.reduceLT, Nat.reduceAdd, Nat.reduceMod, Nat.reduceBEq, sid_mod, sid_ne1, sid_ne2, sid_inj, sumL]; first | done | rfl | (simp; done)) | assumption | rfl)) ?_
  intro i sa ⟨h0a, h1a, h5a, hIa⟩
  have hsl := sumL_le hsq i
  simp (maxSteps := 5000000) -dsimp only [↓gp, gq, reduceCtorEq, Nat.reduceEqDiff, Nat.reduceLT, Nat.reduceLeDiff, Nat.reduceAdd, Nat.reduceMul, Nat.reduceSub, Nat.reduceBEq, Int.reduceToNat, Int.reduceLE, Int.reduceLT, Int.reduceNeg, Nat.reduceMod, sid_ne1, sid_ne2, sid_inj, sid_mod, gT, TK.isInt, TK.agg, Array.toList, h0a, h1a, h5a, hml]
  refine ⟨fun h => ?_, fun h => ?_⟩
  · have hg : (mixM 1 M M.length).getD i [] = mks (1 + (sumL M i : Int)) (M.getD i []).length := by rw [mixM_getD 1 M _ h, if_pos h]
    have hrl := hsq.row i h
    simp (maxSteps := 5000000) -dsimp only [↓gp, gq, reduceCtorEq, Nat.reduceEqDiff, Nat.reduceLT, Nat.reduceLeDiff, Nat.reduceAdd, Nat.reduceMul, Nat.reduceSub, Nat.reduceBEq, Int.reduceToNat, Int.reduceLE, Int.reduceLT, Int.reduceNeg, Nat.reduceMod, sid_ne1, sid_ne2, sid_inj, sid_mod, gT, TK.isInt, TK.agg, Array.toList, h0a, h1a, h5a, hml, hg]
    refine ⟨h, h, askK_of (c_laws_heldIntS (1 + (sumL M i : Int)) (M.getD i []).length (by omega) (by omega) (by omega)) ?_⟩
    have es : 1 + (sumL M i : Int) + (M.getD i []).length = 1 + (sumL M (i + 1) : Int) := by rw [sumL]; omega
    have hn : decide (1 + (sumL M (i + 1) : Int) < 0) = false := decide_eq_false (by omega)
    simp (maxSteps := 5000000) -dsimp only [↓gp, gq, reduceCtorEq, Nat.reduceEqDiff, Nat.reduceLT, Nat.reduceLeDiff, Nat.reduceAdd, Nat.reduceMul, Nat.reduceSub, Nat.reduceBEq, Int.reduceToNat, Int.reduceLE, Int.reduceLT, Int.reduceNeg, Nat.reduceMod, sid_ne1, sid_ne2, sid_inj, sid_mod, gT, TK.isInt, TK.agg, Array.toList, h0a, h1a, h5a, hml, hg, es, hn]
    exact again_of (i + 1) (by refine ⟨?_, ?_, ?_, by omega⟩ <;> (first | (simp (maxSteps := 5000000) -dsimp only [gr, Nat.reduceEqDiff, Nat.reduceLT, Nat.reduceAdd, Nat.reduceMod, Nat.reduceBEq, sid_mod, sid_ne1, sid_ne2, sid_inj, h0a, h1a, h5a, wrap_nat h (by omega), es]; first | done | rfl | (simp; done)) | assumption | rfl)) (by first | omega | (simp only; omega) | (dsimp only; omega) | (show _ < _; simp; omega))
  · have : i = M.length := by omega
    rw [this]
end Go.Proofs.Ytlapkhmehcnjeaa
