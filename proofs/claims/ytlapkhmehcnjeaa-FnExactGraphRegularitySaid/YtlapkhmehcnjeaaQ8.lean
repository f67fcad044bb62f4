/- DERIVED by an AI agent. -/
import Derived.Test.YtlapkhmehcnjeaaQ6
import Derived.Test.YtlapkhmehcnjeaaQ7
import Derived.Test.YtlapkhmehcnjeaaQ3
namespace Go.Proofs.Ytlapkhmehcnjeaa
open Go.Abs
set_option linter.unusedSimpArgs false
set_option linter.unusedVariables false

/-- A complex, checked by counting bits. -/
def cx6 (n : Nat) (l : List Nat) : Bool := decide (1 ≤ n) && decide (n ≤ 6) && (List.range l.length).all fun k =>
  decide (l.getD k 0 < 2 ^ n) && (decide (k = 0) || (if pop6 (l.getD (k - 1) 0) = pop6 (l.getD k 0) then decide (l.getD (k - 1) 0 < l.getD k 0) else decide (pop6 (l.getD (k - 1) 0) < pop6 (l.getD k 0)))) &&
  (List.range k).all fun i => !(l.getD i 0 &&& l.getD k 0 == l.getD i 0)
theorem ofN_at {l : List Nat} {k : Nat} (h : k < l.length) : (ofN l).getD k 0 = ((l.getD k 0 : Nat) : Int) := ofN_getD h
theorem cx6_ok {n : Nat} {l : List Nat} (h : cx6 n l = true) : cxP n (ofN l) := by
  unfold cx6 at h
  simp only [Bool.and_eq_true, decide_eq_true_eq, List.all_eq_true, List.mem_range, Bool.or_eq_true, Bool.not_eq_true'] at h
  obtain ⟨⟨h1, h6⟩, hall⟩ := h
  refine ⟨by omega, by omega, fun k hk => ?_⟩
  rw [ofN_length] at hk
  obtain ⟨⟨ha, hb⟩, hc⟩ := hall k hk
  have hp := two_pow_le h6
  have hk64 : l.getD k 0 < 64 := by omega
  have at64 : ∀ i, i < l.length → l.getD i 0 < 64 := fun i hi => by have := (hall i hi).1.1; omega
  refine ⟨?_, fun h0 => ?_, fun i hi => ?_⟩
  · rw [ofN_at hk]
    unfold inSet
    refine decide_eq_true ⟨by omega, by omega, by omega, ?_⟩
    rw [pow_nat]
    omega
  · have hb := hb.resolve_left (by omega)
    have hj64 := at64 (k - 1) (by omega)
    rw [ofN_at hk, ofN_at (show k - 1 < l.length by omega)]
    generalize l.getD (k - 1) 0 = a at *
    generalize l.getD k 0 = b at *
    have ea : szOf (a : Int) = (pop6 a : Nat) := by rw [szOf, if_pos (by omega), Int.toNat_natCast, popN_6 hj64]
    have eb : szOf (b : Int) = (pop6 b : Nat) := by rw [szOf, if_pos (by omega), Int.toNat_natCast, popN_6 hk64]
    unfold befS
    rw [ea, eb, decide_eq_true (show (0 : Int) ≤ a ∧ (a : Int) < 64 by omega), decide_eq_true (show (0 : Int) ≤ b ∧ (b : Int) < 64 by omega)]
    simp only [Bool.true_and]
    by_cases he : pop6 a = pop6 b
    · rw [if_pos he] at hb
      rw [if_pos (by omega)]
      exact decide_eq_true (by have := of_decide_eq_true hb; omega)
    · rw [if_neg he] at hb
      rw [if_neg (by omega)]
      exact decide_eq_true (by have := of_decide_eq_true hb; omega)
  · have hq := hc i hi
    have hi64 := at64 i (by omega)
    rw [ofN_at hk, ofN_at (show i < l.length by omega), iand_nat (by omega) (by omega)]
    intro e
    have e : l.getD i 0 &&& l.getD k 0 = l.getD i 0 := Int.ofNat.inj e
    rw [e] at hq
    simp at hq
theorem facs_ofN (ps : List ByteArray) : facs ps = ofN (ps.map fun p => setV p p.size) := by
  unfold facs ofN
  rw [List.map_map]; rfl
/-- All but the sets' checks are plain sums. -/
theorem okText {t rest : ByteArray} {n : Nat} {ps : List ByteArray} (size : decide (2 ≤ t.size ∧ t.size ≤ 1000) = true) (pts : decide (1 ≤ n ∧ n ≤ 6) = true) (b0 : byt t 0 = 48 + n) (b1 : byt t 1 = 58) (tail : t.extract 2 t.size = rest)
    (rsize : decide (rest.size ≤ 1000) = true) (full : (rest.toList == (⟨#[]⟩ : ByteArray).toList) = false) (parts : splitB rest 44 = ps) (plen : decide (0 < ps.length ∧ ps.length ≤ 1000) = true) (sets : ps.all okSet = true)
    (head : splitB t 58 = [chr n, rest]) (cx : cx6 n (ps.map fun p => setV p p.size) = true) : OkText t n rest ps :=
  ⟨of_decide_eq_true size, of_decide_eq_true pts, b0, b1, tail, of_decide_eq_true rsize, full, parts, (of_decide_eq_true plen).2, (of_decide_eq_true plen).1, fun p hp => okSet_ok (List.all_eq_true.1 sets p hp), head, by rw [facs_ofN]; exact cx6_ok cx⟩
def ex1 : ByteArray := ⟨#[52, 58, 97, 98, 99, 44, 97, 98, 100, 44, 97, 99, 100, 44, 98, 99, 100]⟩
def ps1 : List ByteArray := [⟨#[97, 98, 99]⟩, ⟨#[97, 98, 100]⟩, ⟨#[97, 99, 100]⟩, ⟨#[98, 99, 100]⟩]
theorem okt1 : OkText ex1 4 ⟨#[97, 98, 99, 44, 97, 98, 100, 44, 97, 99, 100, 44, 98, 99, 100]⟩ ps1 := okText (by kernel_rfl) (by kernel_rfl) (by kernel_rfl) (by kernel_rfl) (by kernel_rfl) (by kernel_rfl) (by kernel_rfl) (by kernel_rfl) (by kernel_rfl) (by kernel_rfl) (by kernel_rfl) (by kernel_rfl)
def ex2 : ByteArray := ⟨#[54, 58, 97, 99, 100, 44, 98, 99, 100, 44, 97, 98, 101, 44, 97, 99, 101, 44, 98, 100, 101, 44, 97, 98, 102, 44, 98, 99, 102, 44, 97, 100, 102, 44, 99, 101, 102, 44, 100, 101, 102]⟩
def ps2 : List ByteArray := [⟨#[97, 99, 100]⟩, ⟨#[98, 99, 100]⟩, ⟨#[97, 98, 101]⟩, ⟨#[97, 99, 101]⟩, ⟨#[98, 100, 101]⟩, ⟨#[97, 98, 102]⟩, ⟨#[98, 99, 102]⟩, ⟨#[97, 100, 102]⟩, ⟨#[99, 101, 102]⟩, ⟨#[100, 101, 102]⟩]
theorem okt2 : OkText ex2 6 ⟨#[97, 99, 100, 44, 98, 99, 100, 44, 97, 98, 101, 44, 97, 99, 101, 44, 98, 100, 101, 44, 97, 98, 102, 44, 98, 99, 102, 44, 97, 100, 102, 44, 99, 101, 102, 44, 100, 101, 102]⟩ ps2 := okText (by kernel_rfl) (by kernel_rfl) (by kernel_rfl) (by kernel_rfl) (by kernel_rfl) (by kernel_rfl) (by kernel_rfl) (by kernel_rfl) (by kernel_rfl) (by kernel_rfl) (by kernel_rfl) (by kernel_rfl)
def ex3 : ByteArray := ⟨#[53, 58, 97, 98, 44, 98, 99, 44, 99, 100, 44, 97, 101, 44, 100, 101]⟩
def ps3 : List ByteArray := [⟨#[97, 98]⟩, ⟨#[98, 99]⟩, ⟨#[99, 100]⟩, ⟨#[97, 101]⟩, ⟨#[100, 101]⟩]
theorem okt3 : OkText ex3 5 ⟨#[97, 98, 44, 98, 99, 44, 99, 100, 44, 97, 101, 44, 100, 101]⟩ ps3 := okText (by kernel_rfl) (by kernel_rfl) (by kernel_rfl) (by kernel_rfl) (by kernel_rfl) (by kernel_rfl) (by kernel_rfl) (by kernel_rfl) (by kernel_rfl) (by kernel_rfl) (by kernel_rfl) (by kernel_rfl)
def ex4 : ByteArray := ⟨#[53, 58, 97, 98, 99, 44, 99, 100, 101]⟩
def ps4 : List ByteArray := [⟨#[97, 98, 99]⟩, ⟨#[99, 100, 101]⟩]
theorem okt4 : OkText ex4 5 ⟨#[97, 98, 99, 44, 99, 100, 101]⟩ ps4 := okText (by kernel_rfl) (by kernel_rfl) (by kernel_rfl) (by kernel_rfl) (by kernel_rfl) (by kernel_rfl) (by kernel_rfl) (by kernel_rfl) (by kernel_rfl) (by kernel_rfl) (by kernel_rfl) (by kernel_rfl)
def ex5 : ByteArray := ⟨#[54, 58, 97, 98, 99, 44, 97, 99, 100, 44, 97, 98, 101, 44, 97, 100, 101, 44, 98, 99, 102, 44, 99, 100, 102, 44, 98, 101, 102, 44, 100, 101, 102]⟩
def ps5 : List ByteArray := [⟨#[97, 98, 99]⟩, ⟨#[97, 99, 100]⟩, ⟨#[97, 98, 101]⟩, ⟨#[97, 100, 101]⟩, ⟨#[98, 99, 102]⟩, ⟨#[99, 100, 102]⟩, ⟨#[98, 101, 102]⟩, ⟨#[100, 101, 102]⟩]
theorem okt5 : OkText ex5 6 ⟨#[97, 98, 99, 44, 97, 99, 100, 44, 97, 98, 101, 44, 97, 100, 101, 44, 98, 99, 102, 44, 99, 100, 102, 44, 98, 101, 102, 44, 100, 101, 102]⟩ ps5 := okText (by kernel_rfl) (by kernel_rfl) (by kernel_rfl) (by kernel_rfl) (by kernel_rfl) (by kernel_rfl) (by kernel_rfl) (by kernel_rfl) (by kernel_rfl) (by kernel_rfl) (by kernel_rfl) (by kernel_rfl)
def ex6 : ByteArray := ⟨#[54, 58, 97, 98, 44, 99, 100, 44, 101, 102]⟩
def ps6 : List ByteArray := [⟨#[97, 98]⟩, ⟨#[99, 100]⟩, ⟨#[101, 102]⟩]
theorem okt6 : OkText ex6 6 ⟨#[97, 98, 44, 99, 100, 44, 101, 102]⟩ ps6 := okText (by kernel_rfl) (by kernel_rfl) (by kernel_rfl) (by kernel_rfl) (by kernel_rfl) (by kernel_rfl) (by kernel_rfl) (by kernel_rfl) (by kernel_rfl) (by kernel_rfl) (by kernel_rfl) (by kernel_rfl)
def ex7 : ByteArray := ⟨#[52, 58, 97, 98, 44, 98, 99, 44, 99, 100]⟩
def ps7 : List ByteArray := [⟨#[97, 98]⟩, ⟨#[98, 99]⟩, ⟨#[99, 100]⟩]
theorem okt7 : OkText ex7 4 ⟨#[97, 98, 44, 98, 99, 44, 99, 100]⟩ ps7 := okText (by kernel_rfl) (by kernel_rfl) (by kernel_rfl) (by kernel_rfl) (by kernel_rfl) (by kernel_rfl) (by kernel_rfl) (by kernel_rfl) (by kernel_rfl) (by kernel_rfl) (by kernel_rfl) (by kernel_rfl)
def ex8 : ByteArray := ⟨#[53, 58, 97, 98, 99, 44, 97, 98, 100, 44, 99, 100, 101]⟩
def ps8 : List ByteArray := [⟨#[97, 98, 99]⟩, ⟨#[97, 98, 100]⟩, ⟨#[99, 100, 101]⟩]
theorem okt8 : OkText ex8 5 ⟨#[97, 98, 99, 44, 97, 98, 100, 44, 99, 100, 101]⟩ ps8 := okText (by kernel_rfl) (by kernel_rfl) (by kernel_rfl) (by kernel_rfl) (by kernel_rfl) (by kernel_rfl) (by kernel_rfl) (by kernel_rfl) (by kernel_rfl) (by kernel_rfl) (by kernel_rfl) (by kernel_rfl)
def exText (k : Int) : ByteArray := if k = 1 then ex1 else if k = 2 then ex2 else if k = 3 then ex3 else if k = 4 then ex4 else if k = 5 then ex5 else if k = 6 then ex6 else if k = 7 then ex7 else if k = 8 then ex8 else ⟨#[]⟩
def exPts (k : Int) : Nat := if k = 1 then 4 else if k = 2 then 6 else if k = 3 then 5 else if k = 4 then 5 else if k = 5 then 6 else if k = 6 then 6 else if k = 7 then 4 else if k = 8 then 5 else 0
def exPs (k : Int) : List ByteArray := if k = 1 then ps1 else if k = 2 then ps2 else if k = 3 then ps3 else if k = 4 then ps4 else if k = 5 then ps5 else if k = 6 then ps6 else if k = 7 then ps7 else if k = 8 then ps8 else []
theorem exText_out {k : Int} (h : ¬ (1 ≤ k ∧ k ≤ 8)) : exText k = ⟨#[]⟩ := by
  unfold exText
  rw [if_neg (by omega)]
  rw [if_neg (by omega)]
  rw [if_neg (by omega)]
  rw [if_neg (by omega)]
  rw [if_neg (by omega)]
  rw [if_neg (by omega)]
  rw [if_neg (by omega)]
  rw [if_neg (by omega)]
theorem exPts_out {k : Int} (h : ¬ (1 ≤ k ∧ k ≤ 8)) : exPts k = 0 := by
  unfold exPts
  rw [if_neg (by omega)]
  rw [if_neg (by omega)]
  rw [if_neg (by omega)]
  rw [if_neg (by omega)]
  rw [if_neg (by omega)]
  rw [if_neg (by omega)]
  rw [if_neg (by omega)]
  rw [if_neg (by omega)]
theorem exPs_out {k : Int} (h : ¬ (1 ≤ k ∧ k ≤ 8)) : exPs k = [] := by
  unfold exPs
  rw [if_neg (by omega)]
  rw [if_neg (by omega)]
  rw [if_neg (by omega)]
  rw [if_neg (by omega)]
  rw [if_neg (by omega)]
  rw [if_neg (by omega)]
  rw [if_neg (by omega)]
  rw [if_neg (by omega)]
theorem exText_in {k : Int} (h : 1 ≤ k ∧ k ≤ 8) : ∃ rest, OkText (exText k) (exPts k) rest (exPs k) := by
  have : k = 1 ∨ k = 2 ∨ k = 3 ∨ k = 4 ∨ k = 5 ∨ k = 6 ∨ k = 7 ∨ k = 8 := by omega
  rcases this with rfl | rfl | rfl | rfl | rfl | rfl | rfl | rfl
  · exact ⟨_, okt1⟩
  · exact ⟨_, okt2⟩
  · exact ⟨_, okt3⟩
  · exact ⟨_, okt4⟩
  · exact ⟨_, okt5⟩
  · exact ⟨_, okt6⟩
  · exact ⟨_, okt7⟩
  · exact ⟨_, okt8⟩
theorem ex_eq {k j : Int} {b : ByteArray} (e : (k == j) = true) (h : exText j = b) : exText k = b := by rw [beq_iff_eq.1 e]; exact h
theorem c_impl_ExampleText (k : Int) : AC Try.prog 84 [int k] (.im (str (exText k))) := by
  refine AC.go (rs := [.tmp 2]) T_ok mixed Try.func84 rfl rfl rfl (by kernel_rfl) fun hl => ?_
  simp (maxSteps := 5000000) -dsimp only [↓gp, gq, reduceCtorEq, Nat.reduceEqDiff, Nat.reduceLT, Nat.reduceLeDiff, Nat.reduceAdd, Nat.reduceMul, Nat.reduceSub, Nat.reduceBEq, Int.reduceToNat, Int.reduceLE, Int.reduceLT, Int.reduceNeg, Nat.reduceMod, sid_ne1, sid_ne2, sid_inj, sid_mod, gT, TK.isInt, TK.agg, Array.toList]
  exact ⟨fun e => ex_eq e rfl, fun n1 => ⟨fun e => ex_eq e rfl, fun n2 => ⟨fun e => ex_eq e rfl, fun n3 => ⟨fun e => ex_eq e rfl, fun n4 => ⟨fun e => ex_eq e rfl, fun n5 => ⟨fun e => ex_eq e rfl, fun n6 => ⟨fun e => ex_eq e rfl, fun n7 => ⟨fun e => ex_eq e rfl, fun n8 => exText_out (by have := beq_eq_false_iff_ne.1 n1; have := beq_eq_false_iff_ne.1 n2; have := beq_eq_false_iff_ne.1 n3; have := beq_eq_false_iff_ne.1 n4; have := beq_eq_false_iff_ne.1 n5; have := beq_eq_false_iff_ne.1 n6; have := beq_eq_false_iff_ne.1 n7; have := beq_eq_false_iff_ne.1 n8; omega)⟩⟩⟩⟩⟩⟩⟩⟩
theorem c_spec_ExampleText (k : Int) : AC Try.prog 82 [int k] (.im (str (exText k))) := by
  refine AC.go (rs := [.tmp 2]) T_ok mixed Try.func82 rfl rfl rfl (by kernel_rfl) fun hl => ?_
  simp (maxSteps := 5000000) -dsimp only [↓gp, gq, reduceCtorEq, Nat.reduceEqDiff, Nat.reduceLT, Nat.reduceLeDiff, Nat.reduceAdd, Nat.reduceMul, Nat.reduceSub, Nat.reduceBEq, Int.reduceToNat, Int.reduceLE, Int.reduceLT, Int.reduceNeg, Nat.reduceMod, sid_ne1, sid_ne2, sid_inj, sid_mod, gT, TK.isInt, TK.agg, Array.toList]
  exact ⟨fun e => ex_eq e rfl, fun n1 => ⟨fun e => ex_eq e rfl, fun n2 => ⟨fun e => ex_eq e rfl, fun n3 => ⟨fun e => ex_eq e rfl, fun n4 => ⟨fun e => ex_eq e rfl, fun n5 => ⟨fun e => ex_eq e rfl, fun n6 => ⟨fun e => ex_eq e rfl, fun n7 => ⟨fun e => ex_eq e rfl, fun n8 => exText_out (by have := beq_eq_false_iff_ne.1 n1; have := beq_eq_false_iff_ne.1 n2; have := beq_eq_false_iff_ne.1 n3; have := beq_eq_false_iff_ne.1 n4; have := beq_eq_false_iff_ne.1 n5; have := beq_eq_false_iff_ne.1 n6; have := beq_eq_false_iff_ne.1 n7; have := beq_eq_false_iff_ne.1 n8; omega)⟩⟩⟩⟩⟩⟩⟩⟩
theorem c_impl_ParseComplex_0 : AC Try.prog 83 [str ⟨#[]⟩] (.tup [.ag [.im (int 0), .fr 3 1 (iL [])], .im (bool false)]) := by
  refine AC.go (rs := [.cell 2 24, .tmp 3]) T_ok mixed Try.func83 rfl rfl rfl (by kernel_rfl) fun hl => ?_
  simp (maxSteps := 5000000) -dsimp only [↓gp, gq, reduceCtorEq, Nat.reduceEqDiff, Nat.reduceLT, Nat.reduceLeDiff, Nat.reduceAdd, Nat.reduceMul, Nat.reduceSub, Nat.reduceBEq, Int.reduceToNat, Int.reduceLE, Int.reduceLT, Int.reduceNeg, Nat.reduceMod, sid_ne1, sid_ne2, sid_inj, sid_mod, gT, TK.isInt, TK.agg, Array.toList]
  have h0 : AC Try.prog 116 [str ⟨#[]⟩] (.tup [.im (int 0), .im (str ⟨#[]⟩), .im (bool false)]) := by
    refine AC.go (rs := [.tmp 2, .tmp 3, .tmp 4]) T_ok mixed Try.func116 rfl rfl rfl (by kernel_rfl) fun hl => ?_
    have hz : (((⟨#[]⟩ : ByteArray).size : Nat) : Int) = 0 := rfl
    simp (maxSteps := 5000000) -dsimp only [↓gp, gq, reduceCtorEq, Nat.reduceEqDiff, Nat.reduceLT, Nat.reduceLeDiff, Nat.reduceAdd, Nat.reduceMul, Nat.reduceSub, Nat.reduceBEq, Int.reduceToNat, Int.reduceLE, Int.reduceLT, Int.reduceNeg, Nat.reduceMod, sid_ne1, sid_ne2, sid_inj, sid_mod, gT, TK.isInt, TK.agg, Array.toList, hz]
  refine askK_of h0 ?_
  simp (maxSteps := 5000000) -dsimp only [↓gp, gq, reduceCtorEq, Nat.reduceEqDiff, Nat.reduceLT, Nat.reduceLeDiff, Nat.reduceAdd, Nat.reduceMul, Nat.reduceSub, Nat.reduceBEq, Int.reduceToNat, Int.reduceLE, Int.reduceLT, Int.reduceNeg, Nat.reduceMod, sid_ne1, sid_ne2, sid_inj, sid_mod, gT, TK.isInt, TK.agg, Array.toList, adopt_tvvv]
  rfl
theorem c_spec_ParseComplex_0 : AC Try.prog 81 [str ⟨#[]⟩] (.tup [.ag [.im (int 0), .fr 3 1 (iL [])], .im (bool false)]) := by
  refine AC.go (rs := [.cell 2 24, .tmp 3]) T_ok mixed Try.func81 rfl rfl rfl (by kernel_rfl) fun hl => ?_
  simp (maxSteps := 5000000) -dsimp only [↓gp, gq, reduceCtorEq, Nat.reduceEqDiff, Nat.reduceLT, Nat.reduceLeDiff, Nat.reduceAdd, Nat.reduceMul, Nat.reduceSub, Nat.reduceBEq, Int.reduceToNat, Int.reduceLE, Int.reduceLT, Int.reduceNeg, Nat.reduceMod, sid_ne1, sid_ne2, sid_inj, sid_mod, gT, TK.isInt, TK.agg, Array.toList]
  refine askK_of (c_spec_SplitByte ⟨#[]⟩ 58 (by decide)) ?_
  have hz : (((splitB ⟨#[]⟩ 58).length : Nat) : Int) = 1 := rfl
  have hz2 : ((1 : Int) != 2) = true := rfl
  simp (maxSteps := 5000000) -dsimp only [↓gp, gq, reduceCtorEq, Nat.reduceEqDiff, Nat.reduceLT, Nat.reduceLeDiff, Nat.reduceAdd, Nat.reduceMul, Nat.reduceSub, Nat.reduceBEq, Int.reduceToNat, Int.reduceLE, Int.reduceLT, Int.reduceNeg, Nat.reduceMod, sid_ne1, sid_ne2, sid_inj, sid_mod, gT, TK.isInt, TK.agg, Array.toList, sL_length, hz, hz2]
  rfl
theorem c_impl_ExampleComplex (k : Int) : AC Try.prog 54 [int k] (.tup [.ag [.im (int (exPts k)), .fr 3 1 (iL (facs (exPs k)))], .im (bool (decide (1 ≤ k ∧ k ≤ 8)))]) := by
  refine AC.go (rs := [.cell 2 24, .tmp 3]) T_ok mixed Try.func54 rfl rfl rfl (by kernel_rfl) fun hl => ?_
  simp (maxSteps := 5000000) -dsimp only [↓gp, gq, reduceCtorEq, Nat.reduceEqDiff, Nat.reduceLT, Nat.reduceLeDiff, Nat.reduceAdd, Nat.reduceMul, Nat.reduceSub, Nat.reduceBEq, Int.reduceToNat, Int.reduceLE, Int.reduceLT, Int.reduceNeg, Nat.reduceMod, sid_ne1, sid_ne2, sid_inj, sid_mod, gT, TK.isInt, TK.agg, Array.toList]
  refine askK_of (c_impl_ExampleText k) ?_
  by_cases h : 1 ≤ k ∧ k ≤ 8
  · obtain ⟨rest, ht⟩ := exText_in h
    rw [decide_eq_true h]
    simp (maxSteps := 5000000) -dsimp only [↓gp, gq, reduceCtorEq, Nat.reduceEqDiff, Nat.reduceLT, Nat.reduceLeDiff, Nat.reduceAdd, Nat.reduceMul, Nat.reduceSub, Nat.reduceBEq, Int.reduceToNat, Int.reduceLE, Int.reduceLT, Int.reduceNeg, Nat.reduceMod, sid_ne1, sid_ne2, sid_inj, sid_mod, gT, TK.isInt, TK.agg, Array.toList]
    refine askK_of (c_impl_ParseComplex ht) ?_
    simp (maxSteps := 5000000) -dsimp only [↓gp, gq, reduceCtorEq, Nat.reduceEqDiff, Nat.reduceLT, Nat.reduceLeDiff, Nat.reduceAdd, Nat.reduceMul, Nat.reduceSub, Nat.reduceBEq, Int.reduceToNat, Int.reduceLE, Int.reduceLT, Int.reduceNeg, Nat.reduceMod, sid_ne1, sid_ne2, sid_inj, sid_mod, gT, TK.isInt, TK.agg, Array.toList]
  · rw [exText_out h, exPts_out h, exPs_out h, decide_eq_false h]
    simp (maxSteps := 5000000) -dsimp only [↓gp, gq, reduceCtorEq, Nat.reduceEqDiff, Nat.reduceLT, Nat.reduceLeDiff, Nat.reduceAdd, Nat.reduceMul, Nat.reduceSub, Nat.reduceBEq, Int.reduceToNat, Int.reduceLE, Int.reduceLT, Int.reduceNeg, Nat.reduceMod, sid_ne1, sid_ne2, sid_inj, sid_mod, gT, TK.isInt, TK.agg, Array.toList]
    refine askK_of c_impl_ParseComplex_0 ?_
    simp (maxSteps := 5000000) -dsimp only [↓gp, gq, reduceCtorEq, Nat.reduceEqDiff, Nat.reduceLT, Nat.reduceLeDiff, Nat.reduceAdd, Nat.reduceMul, Nat.reduceSub, Nat.reduceBEq, Int.reduceToNat, Int.reduceLE, Int.reduceLT, Int.reduceNeg, Nat.reduceMod, sid_ne1, sid_ne2, sid_inj, sid_mod, gT, TK.isInt, TK.agg, Array.toList, facs, List.map_nil]
    rfl
theorem c_spec_ExampleComplex (k : Int) : AC Try.prog 52 [int k] (.tup [.ag [.im (int (exPts k)), .fr 3 1 (iL (facs (exPs k)))], .im (bool (decide (1 ≤ k ∧ k ≤ 8)))]) := by
  refine AC.go (rs := [.cell 2 24, .tmp 3]) T_ok mixed Try.func52 rfl rfl rfl (by kernel_rfl) fun hl => ?_
  simp (maxSteps := 5000000) -dsimp only [↓gp, gq, reduceCtorEq, Nat.reduceEqDiff, Nat.reduceLT, Nat.reduceLeDiff, Nat.reduceAdd, Nat.reduceMul, Nat.reduceSub, Nat.reduceBEq, Int.reduceToNat, Int.reduceLE, Int.reduceLT, Int.reduceNeg, Nat.reduceMod, sid_ne1, sid_ne2, sid_inj, sid_mod, gT, TK.isInt, TK.agg, Array.toList]
  refine askK_of (c_spec_ExampleText k) ?_
  by_cases h : 1 ≤ k ∧ k ≤ 8
  · obtain ⟨rest, ht⟩ := exText_in h
    rw [decide_eq_true h]
    simp (maxSteps := 5000000) -dsimp only [↓gp, gq, reduceCtorEq, Nat.reduceEqDiff, Nat.reduceLT, Nat.reduceLeDiff, Nat.reduceAdd, Nat.reduceMul, Nat.reduceSub, Nat.reduceBEq, Int.reduceToNat, Int.reduceLE, Int.reduceLT, Int.reduceNeg, Nat.reduceMod, sid_ne1, sid_ne2, sid_inj, sid_mod, gT, TK.isInt, TK.agg, Array.toList]
    refine askK_of (c_spec_ParseComplex ht) ?_
    simp (maxSteps := 5000000) -dsimp only [↓gp, gq, reduceCtorEq, Nat.reduceEqDiff, Nat.reduceLT, Nat.reduceLeDiff, Nat.reduceAdd, Nat.reduceMul, Nat.reduceSub, Nat.reduceBEq, Int.reduceToNat, Int.reduceLE, Int.reduceLT, Int.reduceNeg, Nat.reduceMod, sid_ne1, sid_ne2, sid_inj, sid_mod, gT, TK.isInt, TK.agg, Array.toList]
  · rw [exText_out h, exPts_out h, exPs_out h, decide_eq_false h]
    simp (maxSteps := 5000000) -dsimp only [↓gp, gq, reduceCtorEq, Nat.reduceEqDiff, Nat.reduceLT, Nat.reduceLeDiff, Nat.reduceAdd, Nat.reduceMul, Nat.reduceSub, Nat.reduceBEq, Int.reduceToNat, Int.reduceLE, Int.reduceLT, Int.reduceNeg, Nat.reduceMod, sid_ne1, sid_ne2, sid_inj, sid_mod, gT, TK.isInt, TK.agg, Array.toList]
    refine askK_of c_spec_ParseComplex_0 ?_
    simp (maxSteps := 5000000) -dsimp only [↓gp, gq, reduceCtorEq, Nat.reduceEqDiff, Nat.reduceLT, Nat.reduceLeDiff, Nat.reduceAdd, Nat.reduceMul, Nat.reduceSub, Nat.reduceBEq, Int.reduceToNat, Int.reduceLE, Int.reduceLT, Int.reduceNeg, Nat.reduceMod, sid_ne1, sid_ne2, sid_inj, sid_mod, gT, TK.isInt, TK.agg, Array.toList, facs, List.map_nil]
    rfl
theorem c_laws_markComplex (n : Int) (xs : List Int) (k : Int) (hx : xs.length ≤ 1152921504606846976) (k0 : 0 ≤ k) (k1 : k ≤ 1152921504606846976) : AM Try.prog 35 [.ag [int n, .own 1000000 1], int k] [⟨3, 1, iL xs⟩] [iL (mks k xs.length)] (.int .i64 (k + xs.length)) := by
  refine AM.go (rs := [.tmp 4]) T_ok mixed Try.func35 rfl rfl rfl (by kernel_rfl) (plainR_cons (plain_iL _) plainR_nil) (plains_cons (plain_iL _) plains_nil) rfl fun hl => ?_
  simp (maxSteps := 5000000) -dsimp only [↓gp, gq, reduceCtorEq, Nat.reduceEqDiff, Nat.reduceLT, Nat.reduceLeDiff, Nat.reduceAdd, Nat.reduceMul, Nat.reduceSub, Nat.reduceBEq, Int.reduceToNat, Int.reduceLE, Int.reduceLT, Int.reduceNeg, Nat.reduceMod, sid_ne1, sid_ne2, sid_inj, sid_mod, gT, TK.isInt, TK.agg, Array.toList]
  refine askM_of (c_laws_markIntS xs k hx k0 k1) [(1000000, 1)] (by repeat (first | exact GiveL.nil | refine GiveL.v ?_ | refine GiveL.own 0 rfl ?_ | refine GiveL.own 1 rfl ?_ | refine GiveL.ag ?_ ?_)) ⟨by simp (maxSteps := 5000000) -dsimp only [gr, Nat.reduceEqDiff, Nat.reduceLT, Nat.reduceAdd, Nat.reduceMod, Nat.reduceBEq, sid_mod, sid_ne1, sid_ne2, sid_inj], trivial⟩ (by decide) ?_
  simp (maxSteps := 5000000) -dsimp only [↓gp, gq, reduceCtorEq, Nat.reduceEqDiff, Nat.reduceLT, Nat.reduceLeDiff, Nat.reduceAdd, Nat.reduceMul, Nat.reduceSub, Nat.reduceBEq, Int.reduceToNat, Int.reduceLE, Int.reduceLT, Int.reduceNeg, Nat.reduceMod, sid_ne1, sid_ne2, sid_inj, sid_mod, gT, TK.isInt, TK.agg, Array.toList]
theorem c_laws_heldComplex (m : Int) (k : Int) (n : Nat) (hn : n ≤ 1152921504606846976) (k0 : 0 ≤ k) (k1 : k ≤ 1152921504606846976) : AC Try.prog 55 [.ag [int m, ints (mks k n)], int k] (.im (int (k + n))) := by
  refine AC.go (rs := [.tmp 4]) T_ok mixed Try.func55 rfl rfl rfl (by kernel_rfl) fun hl => ?_
  simp (maxSteps := 5000000) -dsimp only [↓gp, gq, reduceCtorEq, Nat.reduceEqDiff, Nat.reduceLT, Nat.reduceLeDiff, Nat.reduceAdd, Nat.reduceMul, Nat.reduceSub, Nat.reduceBEq, Int.reduceToNat, Int.reduceLE, Int.reduceLT, Int.reduceNeg, Nat.reduceMod, sid_ne1, sid_ne2, sid_inj, sid_mod, gT, TK.isInt, TK.agg, Array.toList]
  refine askK_of (c_laws_heldIntS k n hn k0 k1) ?_
  simp (maxSteps := 5000000) -dsimp only [↓gp, gq, reduceCtorEq, Nat.reduceEqDiff, Nat.reduceLT, Nat.reduceLeDiff, Nat.reduceAdd, Nat.reduceMul, Nat.reduceSub, Nat.reduceBEq, Int.reduceToNat, Int.reduceLE, Int.reduceLT, Int.reduceNeg, Nat.reduceMod, sid_ne1, sid_ne2, sid_inj, sid_mod, gT, TK.isInt, TK.agg, Array.toList]
  intro h
  omega
theorem c_laws_eqComplex (n m : Int) (xs ys : List Int) : AC Try.prog 23 [.ag [int n, ints xs], .ag [int m, ints ys]] (.im (bool (sameG n xs m ys))) := by
  refine AC.go (rs := [.tmp 4]) T_ok mixed Try.func23 rfl rfl rfl (by kernel_rfl) fun hl => ?_
  simp (maxSteps := 5000000) -dsimp only [↓gp, gq, reduceCtorEq, Nat.reduceEqDiff, Nat.reduceLT, Nat.reduceLeDiff, Nat.reduceAdd, Nat.reduceMul, Nat.reduceSub, Nat.reduceBEq, Int.reduceToNat, Int.reduceLE, Int.reduceLT, Int.reduceNeg, Nat.reduceMod, sid_ne1, sid_ne2, sid_inj, sid_mod, gT, TK.isInt, TK.agg, Array.toList]
  unfold sameG
  refine ⟨fun h => ?_, fun h => askK_of (c_laws_eqIntS xs ys) ?_⟩
  · simp at h
    simp [h]
  · simp (maxSteps := 5000000) -dsimp only [↓gp, gq, reduceCtorEq, Nat.reduceEqDiff, Nat.reduceLT, Nat.reduceLeDiff, Nat.reduceAdd, Nat.reduceMul, Nat.reduceSub, Nat.reduceBEq, Int.reduceToNat, Int.reduceLE, Int.reduceLT, Int.reduceNeg, Nat.reduceMod, sid_ne1, sid_ne2, sid_inj, sid_mod, gT, TK.isInt, TK.agg, Array.toList]
    simp at h
    exact ⟨fun h2 => by simpa [h] using h2, fun h2 => by simpa [h] using h2⟩
theorem facsEx_le (k : Int) : (facs (exPs k)).length ≤ 1048576 := by
  by_cases h : 1 ≤ k ∧ k ≤ 8
  · obtain ⟨_, ht⟩ := exText_in h
    have := ht.plen
    unfold facs
    simp
    omega
  · rw [exPs_out h]; decide
end Go.Proofs.Ytlapkhmehcnjeaa

namespace Go.Proofs.Ytlapkhmehcnjeaa
open Go.Abs
set_option linter.unusedSimpArgs false
set_option linter.unusedVariables false

theorem c_laws_szComplex (k : Int) (xs : List Int) (n : Int) (h0 : 0 ≤ n) (h1 : n ≤ 1048576) : AC Try.prog 19 [.ag [int k, ints xs], int n] (.im (int (szI n xs.length))) := by
  refine AC.go (rs := [.tmp 4]) T_ok mixed Try.func19 rfl rfl rfl (by kernel_rfl) fun hl => ?_
  simp (maxSteps := 5000000) -dsimp only [↓gp, gq, reduceCtorEq, Nat.reduceEqDiff, Nat.reduceLT, Nat.reduceLeDiff, Nat.reduceAdd, Nat.reduceMul, Nat.reduceSub, Nat.reduceBEq, Int.reduceToNat, Int.reduceLE, Int.reduceLT, Int.reduceNeg, Nat.reduceMod, sid_ne1, sid_ne2, sid_inj, sid_mod, gT, TK.isInt, TK.agg, Array.toList]
  refine askK_of (c_laws_szIntS xs n h0 h1) ?_
  simp (maxSteps := 5000000) -dsimp only [↓gp, gq, reduceCtorEq, Nat.reduceEqDiff, Nat.reduceLT, Nat.reduceLeDiff, Nat.reduceAdd, Nat.reduceMul, Nat.reduceSub, Nat.reduceBEq, Int.reduceToNat, Int.reduceLE, Int.reduceLT, Int.reduceNeg, Nat.reduceMod, sid_ne1, sid_ne2, sid_inj, sid_mod, gT, TK.isInt, TK.agg, Array.toList]
  have e : (if n - ↑xs.length < 0 then (-1 : Int) else n - ↑xs.length) = szI n xs.length := rfl
  simp only [e]
  refine ⟨fun h => ?_, fun _ => trivial⟩
  unfold szI at h ⊢
  split <;> omega
theorem c_laws_toComplex (n : Int) (xs : List Int) (hx : xs.length ≤ 1048576) : AC Try.prog 21 [.ag [int n, ints xs]] (.ag [.im (int n), .fr 3 1 (iL xs)]) := by
  refine AC.go (rs := [.cell 2 24]) T_ok mixed Try.func21 rfl rfl rfl (by kernel_rfl) fun hl => ?_
  simp (maxSteps := 5000000) -dsimp only [↓gp, gq, reduceCtorEq, Nat.reduceEqDiff, Nat.reduceLT, Nat.reduceLeDiff, Nat.reduceAdd, Nat.reduceMul, Nat.reduceSub, Nat.reduceBEq, Int.reduceToNat, Int.reduceLE, Int.reduceLT, Int.reduceNeg, Nat.reduceMod, sid_ne1, sid_ne2, sid_inj, sid_mod, gT, TK.isInt, TK.agg, Array.toList]
  refine askK_of (c_laws_toIntS xs hx) ?_
  simp (maxSteps := 5000000) -dsimp only [↓gp, gq, reduceCtorEq, Nat.reduceEqDiff, Nat.reduceLT, Nat.reduceLeDiff, Nat.reduceAdd, Nat.reduceMul, Nat.reduceSub, Nat.reduceBEq, Int.reduceToNat, Int.reduceLE, Int.reduceLT, Int.reduceNeg, Nat.reduceMod, sid_ne1, sid_ne2, sid_inj, sid_mod, gT, TK.isInt, TK.agg, Array.toList]
theorem sgnO_le (n : Int) (xs : List Int) (p : Int) : (sgnO n xs p).length ≤ 1048576 := by
  have := (betR_sq n xs p).len
  unfold sgnO; rw [colSums_length]; omega
theorem rowO_le (n : Int) (xs : List Int) (p : Int) : (rowO n xs p).length ≤ 1048576 := by
  have := (betR_sq n xs p).len
  have := lenM_lt (betR n xs p) (betR n xs p).length
  unfold rowO lenO; rw [rowSums_length]; omega
end Go.Proofs.Ytlapkhmehcnjeaa

namespace Go.Proofs.Ytlapkhmehcnjeaa
open Go.Abs
set_option linter.unusedSimpArgs false
set_option linter.unusedVariables false

/-- The sets that are no faces. -/
noncomputable def misF (n : Int) (xs : List Int) (s : Nat) : Bool := isCx n xs && (inSet n s && !faceB xs s)
noncomputable def misL (n : Int) (xs : List Int) : List Nat := extN (misF n xs) false
theorem misF_lt {n : Int} {xs : List Int} {s : Nat} (h : misF n xs s = true) : s < 64 := by
  unfold misF at h
  simp only [Bool.and_eq_true] at h
  have := inSet_lt h.2.1
  omega
theorem misF_fil (n : Int) (xs : List Int) : inF (ofN ((List.range 64).filter (misF n xs))) = misF n xs := by
  funext s
  rw [inF_ofN]
  refine Bool.eq_iff_iff.2 ?_
  rw [decide_eq_true_iff, List.mem_filter, List.mem_range]
  exact ⟨fun h => h.2, fun h => ⟨misF_lt h, h⟩⟩
theorem misF_no {n : Int} {xs : List Int} (h : isCx n xs = false) (s : Nat) : misF n xs s = false := by unfold misF; rw [h]; rfl
theorem misL_no {n : Int} {xs : List Int} (h : isCx n xs = false) : misL n xs = [] := by
  unfold misL extN ordN ordS
  have : misF n xs = fun _ => false := funext (misF_no h)
  rw [this]; simp
theorem c_spec_MissingSets (n : Int) (xs : List Int) : AC Try.prog 58 [.ag [int n, ints xs]] (.fr 3 1 (iL (ofN (misL n xs)))) := by
  refine AC.go (rs := [.tmp 2]) T_ok mixed Try.func58 rfl rfl rfl (by kernel_rfl) fun hl => ?_
  simp (maxSteps := 5000000) -dsimp only [↓gp, gq, reduceCtorEq, Nat.reduceEqDiff, Nat.reduceLT, Nat.reduceLeDiff, Nat.reduceAdd, Nat.reduceMul, Nat.reduceSub, Nat.reduceBEq, Int.reduceToNat, Int.reduceLE, Int.reduceLT, Int.reduceNeg, Nat.reduceMod, sid_ne1, sid_ne2, sid_inj, sid_mod, gT, TK.isInt, TK.agg, Array.toList]
  refine loop_of (fun (za : Nat × Nat) s => match za with | (t, v) => s.sl 1 = .ref 1 1 0 ∧ s.rw 1 = ⟨1, .box 24 [int n, ints xs]⟩ ∧ s.sl 3 = .own 5 v ∧ s.rw 5 = ⟨v, .sli 3 1 false (iL (ofN ((List.range t).filter (misF n xs))))⟩ ∧ s.sl 4 = int t ∧ (t ≤ 64)) (fun (t, v) => 64 - t) ((0, 1)) (by refine ⟨?_, ?_, ?_, ?_, ?_, by simp⟩ <;> (first | (simp (maxSteps := 5000000) -dsimp only [gr, Nat.reduceEqDiff, Nat.reduceLT, Nat.reduceAdd, Nat.reduceMod, Nat.reduceBEq, sid_mod, sid_ne1, sid_ne2, sid_inj]; first | done | rfl | (simp; done)) | assumption | rfl)) ?_
  intro (t, v) sa ⟨h1a, r1a, h3a, r5a, h4a, hIa⟩
  have hfl : ((List.range t).filter (misF n xs)).length ≤ 64 := by
    have := List.length_filter_le (misF n xs) (List.range t)
    rw [List.length_range] at this
    omega
  have hend : (t = 64 ∨ isCx n xs = false) → inF (ofN ((List.range t).filter (misF n xs))) = misF n xs := fun h => by
    rcases h with rfl | h
    · exact misF_fil n xs
    · funext i
      rw [inF_ofN, misF_no h]
      exact decide_eq_false fun hm => by rw [List.mem_filter, misF_no h] at hm; cases hm.2
  have hext : (t = 64 ∨ isCx n xs = false) → AC Try.prog 88 [ints (ofN ((List.range t).filter (misF n xs))), bool false] (.fr 3 1 (iL (ofN (misL n xs)))) := fun h => by
    have := c_spec_l2Extreme false _ (ofN_ok (l := (List.range t).filter (misF n xs)) fun i hi => misF_lt (List.mem_filter.1 hi).2)
    rwa [hend h] at this
  simp (maxSteps := 5000000) -dsimp only [↓gp, gq, reduceCtorEq, Nat.reduceEqDiff, Nat.reduceLT, Nat.reduceLeDiff, Nat.reduceAdd, Nat.reduceMul, Nat.reduceSub, Nat.reduceBEq, Int.reduceToNat, Int.reduceLE, Int.reduceLT, Int.reduceNeg, Nat.reduceMod, sid_ne1, sid_ne2, sid_inj, sid_mod, gT, TK.isInt, TK.agg, Array.toList, h1a, r1a, h3a, r5a, h4a]
  refine ⟨fun h => askK_of (c_spec_IsComplex n xs) ?_, fun h => askK_of (hext (.inl (by omega))) ?_⟩
  · simp (maxSteps := 5000000) -dsimp only [↓gp, gq, reduceCtorEq, Nat.reduceEqDiff, Nat.reduceLT, Nat.reduceLeDiff, Nat.reduceAdd, Nat.reduceMul, Nat.reduceSub, Nat.reduceBEq, Int.reduceToNat, Int.reduceLE, Int.reduceLT, Int.reduceNeg, Nat.reduceMod, sid_ne1, sid_ne2, sid_inj, sid_mod, gT, TK.isInt, TK.agg, Array.toList, h1a, r1a, h3a, r5a, h4a]
    refine ⟨fun hc => askK_of (c_spec_IsSet _ _) ?_, fun hc => askK_of (hext (.inr hc)) ?_⟩
    · have hx := cx_ok hc
      have h : t < 64 := by omega
      have hms : misF n xs t = (inSet n t && !faceB xs t) := by unfold misF; rw [hc]; rfl
      have hyes : misF n xs t = true → ofN ((List.range (t + 1)).filter (misF n xs)) = ofN ((List.range t).filter (misF n xs)) ++ [(t : Int)] := fun h => by
        rw [List.range_succ, List.filter_append, ofN_append]
        simp [h, ofN]
      have hno : misF n xs t = false → ofN ((List.range (t + 1)).filter (misF n xs)) = ofN ((List.range t).filter (misF n xs)) := fun h => by
        rw [List.range_succ, List.filter_append, ofN_append]
        simp [h, ofN]
      simp (maxSteps := 5000000) -dsimp only [↓gp, gq, reduceCtorEq, Nat.reduceEqDiff, Nat.reduceLT, Nat.reduceLeDiff, Nat.reduceAdd, Nat.reduceMul, Nat.reduceSub, Nat.reduceBEq, Int.reduceToNat, Int.reduceLE, Int.reduceLT, Int.reduceNeg, Nat.reduceMod, sid_ne1, sid_ne2, sid_inj, sid_mod, gT, TK.isInt, TK.agg, Array.toList, h1a, r1a, h3a, r5a, h4a]
      refine ⟨fun hs => askK_of (c_spec_l3Has n xs t hx h) ?_, fun hs => ?_⟩
      · simp (maxSteps := 5000000) -dsimp only [↓gp, gq, reduceCtorEq, Nat.reduceEqDiff, Nat.reduceLT, Nat.reduceLeDiff, Nat.reduceAdd, Nat.reduceMul, Nat.reduceSub, Nat.reduceBEq, Int.reduceToNat, Int.reduceLE, Int.reduceLT, Int.reduceNeg, Nat.reduceMod, sid_ne1, sid_ne2, sid_inj, sid_mod, gT, TK.isInt, TK.agg, Array.toList, h1a, r1a, h3a, r5a, h4a]
        refine ⟨fun hf => ?_, fun hf => ?_⟩
        · have e := hyes (by rw [hms, hs, hf]; rfl)
          refine ⟨by rw [ofN_length]; omega, again_of ((t + 1, v + 1)) (by refine ⟨?_, ?_, ?_, ?_, ?_, by dsimp only; omega⟩ <;> (first | (simp (maxSteps := 5000000) -dsimp only [gr, Nat.reduceEqDiff, Nat.reduceLT, Nat.reduceAdd, Nat.reduceMod, Nat.reduceBEq, sid_mod, sid_ne1, sid_ne2, sid_inj, h1a, r1a, h3a, r5a, h4a, wrap_nat h (by omega), e]; first | done | rfl | (simp; done)) | assumption | rfl)) (by first | omega | (simp only; omega) | (dsimp only; omega) | (show _ < _; simp; omega))⟩
        · have e := hno (by rw [hms, hf]; simp)
          exact again_of ((t + 1, v)) (by refine ⟨?_, ?_, ?_, ?_, ?_, by dsimp only; omega⟩ <;> (first | (simp (maxSteps := 5000000) -dsimp only [gr, Nat.reduceEqDiff, Nat.reduceLT, Nat.reduceAdd, Nat.reduceMod, Nat.reduceBEq, sid_mod, sid_ne1, sid_ne2, sid_inj, h1a, r1a, h3a, r5a, h4a, wrap_nat h (by omega), e]; first | done | rfl | (simp; done)) | assumption | rfl)) (by first | omega | (simp only; omega) | (dsimp only; omega) | (show _ < _; simp; omega))
      · have e := hno (by rw [hms, hs]; rfl)
        exact again_of ((t + 1, v)) (by refine ⟨?_, ?_, ?_, ?_, ?_, by dsimp only; omega⟩ <;> (first | (simp (maxSteps := 5000000) -dsimp only [gr, Nat.reduceEqDiff, Nat.reduceLT, Nat.reduceAdd, Nat.reduceMod, Nat.reduceBEq, sid_mod, sid_ne1, sid_ne2, sid_inj, h1a, r1a, h3a, r5a, h4a, wrap_nat h (by omega), e]; first | done | rfl | (simp; done)) | assumption | rfl)) (by first | omega | (simp only; omega) | (dsimp only; omega) | (show _ < _; simp; omega))
    · simp (maxSteps := 5000000) -dsimp only [↓gp, gq, reduceCtorEq, Nat.reduceEqDiff, Nat.reduceLT, Nat.reduceLeDiff, Nat.reduceAdd, Nat.reduceMul, Nat.reduceSub, Nat.reduceBEq, Int.reduceToNat, Int.reduceLE, Int.reduceLT, Int.reduceNeg, Nat.reduceMod, sid_ne1, sid_ne2, sid_inj, sid_mod, gT, TK.isInt, TK.agg, Array.toList, h1a, r1a, h3a, r5a, h4a]
  · simp (maxSteps := 5000000) -dsimp only [↓gp, gq, reduceCtorEq, Nat.reduceEqDiff, Nat.reduceLT, Nat.reduceLeDiff, Nat.reduceAdd, Nat.reduceMul, Nat.reduceSub, Nat.reduceBEq, Int.reduceToNat, Int.reduceLE, Int.reduceLT, Int.reduceNeg, Nat.reduceMod, sid_ne1, sid_ne2, sid_inj, sid_mod, gT, TK.isInt, TK.agg, Array.toList, h1a, r1a, h3a, r5a, h4a]
theorem c_impl_missingIn_1 (G t : Nat) (hG : G < 18446744073709551616) (ht : t < 64) : AC Try.prog 122 [int t, .eref false [u64 G] 0] (.im (bool (!G.testBit t))) := by
  refine AC.go (rs := [.tmp 3]) T_ok mixed Try.func122 rfl rfl rfl (by kernel_rfl) fun hl => ?_
  simp (maxSteps := 5000000) -dsimp only [↓gp, gq, reduceCtorEq, Nat.reduceEqDiff, Nat.reduceLT, Nat.reduceLeDiff, Nat.reduceAdd, Nat.reduceMul, Nat.reduceSub, Nat.reduceBEq, Int.reduceToNat, Int.reduceLE, Int.reduceLT, Int.reduceNeg, Nat.reduceMod, sid_ne1, sid_ne2, sid_inj, sid_mod, gT, TK.isInt, TK.agg, Array.toList]
  refine askK_of (c_impl_hasSet G t hG ht) ?_
  simp (maxSteps := 5000000) -dsimp only [↓gp, gq, reduceCtorEq, Nat.reduceEqDiff, Nat.reduceLT, Nat.reduceLeDiff, Nat.reduceAdd, Nat.reduceMul, Nat.reduceSub, Nat.reduceBEq, Int.reduceToNat, Int.reduceLE, Int.reduceLT, Int.reduceNeg, Nat.reduceMod, sid_ne1, sid_ne2, sid_inj, sid_mod, gT, TK.isInt, TK.agg, Array.toList]
theorem c_impl_missingIn (n G : Nat) (hn : n ≤ 6) (hG : G < 18446744073709551616) : AC Try.prog 92 [int n, u64 G] (.fr 3 1 (iL (ofN (extN (fun s => decide (s < 2 ^ n) && !G.testBit s) false)))) := by
  refine AC.go (rs := [.tmp 4]) T_ok mixed Try.func92 rfl rfl rfl (by kernel_rfl) fun hl => ?_
  have h64 := two_pow_le hn
  simp (maxSteps := 5000000) -dsimp only [↓gp, gq, reduceCtorEq, Nat.reduceEqDiff, Nat.reduceLT, Nat.reduceLeDiff, Nat.reduceAdd, Nat.reduceMul, Nat.reduceSub, Nat.reduceBEq, Int.reduceToNat, Int.reduceLE, Int.reduceLT, Int.reduceNeg, Nat.reduceMod, sid_ne1, sid_ne2, sid_inj, sid_mod, gT, TK.isInt, TK.agg, Array.toList]
  refine askK_of (c_impl_pickSets n hn _ [.eref false [u64 G] 0] (fun s => !G.testBit s) (fun rw => rfl) fun s hs => c_impl_missingIn_1 G s hG (by omega)) ?_
  simp (maxSteps := 5000000) -dsimp only [↓gp, gq, reduceCtorEq, Nat.reduceEqDiff, Nat.reduceLT, Nat.reduceLeDiff, Nat.reduceAdd, Nat.reduceMul, Nat.reduceSub, Nat.reduceBEq, Int.reduceToNat, Int.reduceLE, Int.reduceLT, Int.reduceNeg, Nat.reduceMod, sid_ne1, sid_ne2, sid_inj, sid_mod, gT, TK.isInt, TK.agg, Array.toList]
  refine askK_of (c_impl_minimalIn _ (mask_lt64 _ hn)) ?_
  have e : (maskF (fun s => !G.testBit s) (2 ^ n)).testBit = fun s => decide (s < 2 ^ n) && !G.testBit s := funext fun s => maskF_bit _ _ _
  rw [e]
  simp (maxSteps := 5000000) -dsimp only [↓gp, gq, reduceCtorEq, Nat.reduceEqDiff, Nat.reduceLT, Nat.reduceLeDiff, Nat.reduceAdd, Nat.reduceMul, Nat.reduceSub, Nat.reduceBEq, Int.reduceToNat, Int.reduceLE, Int.reduceLT, Int.reduceNeg, Nat.reduceMod, sid_ne1, sid_ne2, sid_inj, sid_mod, gT, TK.isInt, TK.agg, Array.toList]
theorem c_impl_MissingSets (n : Int) (xs : List Int) : AC Try.prog 62 [.ag [int n, ints xs]] (.fr 3 1 (iL (ofN (misL n xs)))) := by
  refine AC.go (rs := [.tmp 2]) T_ok mixed Try.func62 rfl rfl rfl (by kernel_rfl) fun hl => ?_
  simp (maxSteps := 5000000) -dsimp only [↓gp, gq, reduceCtorEq, Nat.reduceEqDiff, Nat.reduceLT, Nat.reduceLeDiff, Nat.reduceAdd, Nat.reduceMul, Nat.reduceSub, Nat.reduceBEq, Int.reduceToNat, Int.reduceLE, Int.reduceLT, Int.reduceNeg, Nat.reduceMod, sid_ne1, sid_ne2, sid_inj, sid_mod, gT, TK.isInt, TK.agg, Array.toList]
  refine askK_of (c_impl_IsComplex n xs) ?_
  simp (maxSteps := 5000000) -dsimp only [↓gp, gq, reduceCtorEq, Nat.reduceEqDiff, Nat.reduceLT, Nat.reduceLeDiff, Nat.reduceAdd, Nat.reduceMul, Nat.reduceSub, Nat.reduceBEq, Int.reduceToNat, Int.reduceLE, Int.reduceLT, Int.reduceNeg, Nat.reduceMod, sid_ne1, sid_ne2, sid_inj, sid_mod, gT, TK.isInt, TK.agg, Array.toList]
  refine ⟨fun hc => ?_, fun hc => ?_⟩
  · rw [misL_no (by simpa using hc)]; rfl
  · have hc : isCx n xs = true := by simpa using hc
    obtain ⟨h1, h6, _⟩ := isCx_iff.1 hc
    have hx := cx_ok hc
    obtain ⟨m, rfl⟩ : ∃ m : Nat, n = m := ⟨n.toNat, by omega⟩
    have h64 := two_pow_le (m := m) (by omega)
    refine ⟨by kernel_rfl, askK_of (c_impl_facesIn _ xs hx) ?_⟩
    simp (maxSteps := 5000000) -dsimp only [↓gp, gq, reduceCtorEq, Nat.reduceEqDiff, Nat.reduceLT, Nat.reduceLeDiff, Nat.reduceAdd, Nat.reduceMul, Nat.reduceSub, Nat.reduceBEq, Int.reduceToNat, Int.reduceLE, Int.reduceLT, Int.reduceNeg, Nat.reduceMod, sid_ne1, sid_ne2, sid_inj, sid_mod, gT, TK.isInt, TK.agg, Array.toList]
    have hm := maskF_lt (faceB xs) 64
    refine askK_of (c_impl_missingIn m _ (by omega) (by omega)) ?_
    have e : (fun s => decide (s < 2 ^ m) && !(maskF (faceB xs) 64).testBit s) = misF m xs := funext fun s => by
      unfold misF
      rw [hc, maskF_bit, Bool.true_and]
      unfold inSet
      by_cases hs : s < 2 ^ m
      · have h2 : s < 64 := by omega
        have h3 : decide (0 ≤ (m : Int) ∧ (m : Int) ≤ 6 ∧ 0 ≤ (s : Int) ∧ (s : Int) < 2 ^ (m : Int).toNat) = true := decide_eq_true ⟨by omega, by omega, by omega, by rw [Int.toNat_natCast]; exact_mod_cast hs⟩
        rw [h3]; simp [hs, h2]
      · have h3 : decide (0 ≤ (m : Int) ∧ (m : Int) ≤ 6 ∧ 0 ≤ (s : Int) ∧ (s : Int) < 2 ^ (m : Int).toNat) = false := decide_eq_false fun h => hs (by have := h.2.2.2; rw [Int.toNat_natCast] at this; exact_mod_cast this)
        rw [h3]; simp [hs]
    rw [e]
    simp (maxSteps := 5000000) -dsimp only [↓gp, gq, reduceCtorEq, Nat.reduceEqDiff, Nat.reduceLT, Nat.reduceLeDiff, Nat.reduceAdd, Nat.reduceMul, Nat.reduceSub, Nat.reduceBEq, Int.reduceToNat, Int.reduceLE, Int.reduceLT, Int.reduceNeg, Nat.reduceMod, sid_ne1, sid_ne2, sid_inj, sid_mod, gT, TK.isInt, TK.agg, Array.toList]
    rfl
end Go.Proofs.Ytlapkhmehcnjeaa

namespace Go.Proofs.Ytlapkhmehcnjeaa
open Go.Abs
set_option linter.unusedSimpArgs false
set_option linter.unusedVariables false

/-- The first number that answers. -/
def firstD (f : Nat → Bool) (d : Nat) : Nat → Int | 0 => -1 | k + 1 => if f d = true then d else firstD f (d + 1) k
theorem firstD_none {f : Nat → Bool} (h : ∀ d, f d = false) : ∀ k d, firstD f d k = -1 := by
  intro k
  induction k with
  | zero => intro d; rfl
  | succ k ih => intro d; unfold firstD; rw [h d]; exact ih _
noncomputable def degO (n : Int) (xs : List Int) (p : Int) : Int := if misL n xs = [] then -1 else firstD (fun d => linO n xs p d) 1 n.toNat
theorem misL_len (n : Int) (xs : List Int) : (misL n xs).length ≤ 448 := extN_len _ _
theorem misL_cx {n : Int} {xs : List Int} (h : misL n xs ≠ []) : 1 ≤ n ∧ n ≤ 6 := by
  cases hc : isCx n xs with
  | false => exact absurd (misL_no hc) h
  | true => obtain ⟨h1, h6, _⟩ := isCx_iff.1 hc; exact ⟨h1, h6⟩
theorem c_spec_LinearDegree (n : Int) (xs : List Int) (p : Int) : AC Try.prog 45 [.ag [int n, ints xs], int p] (.im (int (degO n xs p))) := by
  refine AC.go (rs := [.tmp 4]) T_ok mixed Try.func45 rfl rfl rfl (by kernel_rfl) fun hl => ?_
  simp (maxSteps := 5000000) -dsimp only [↓gp, gq, reduceCtorEq, Nat.reduceEqDiff, Nat.reduceLT, Nat.reduceLeDiff, Nat.reduceAdd, Nat.reduceMul, Nat.reduceSub, Nat.reduceBEq, Int.reduceToNat, Int.reduceLE, Int.reduceLT, Int.reduceNeg, Nat.reduceMod, sid_ne1, sid_ne2, sid_inj, sid_mod, gT, TK.isInt, TK.agg, Array.toList]
  refine loop_of (fun (d : Nat) s => s.sl 1 = int p ∧ s.sl 2 = .ref 2 1 0 ∧ s.rw 2 = ⟨1, .box 24 [int n, ints xs]⟩ ∧ s.sl 5 = int d ∧ (1 ≤ d ∧ (d = 1 ∨ (misL n xs ≠ [] ∧ (d : Int) ≤ n + 1)) ∧ (misL n xs ≠ [] → degO n xs p = firstD (fun d => linO n xs p d) d (n + 1 - d).toNat))) (fun d => (n + 1 - d).toNat) (1) (by refine ⟨?_, ?_, ?_, ?_, ⟨by omega, .inl rfl, fun h => by unfold degO; rw [if_neg h]; congr 1; omega⟩⟩ <;> (first | (simp (maxSteps := 5000000) -dsimp only [gr, Nat.reduceEqDiff, Nat.reduceLT, Nat.reduceAdd, Nat.reduceMod, Nat.reduceBEq, sid_mod, sid_ne1, sid_ne2, sid_inj]; first | done | rfl | (simp; done)) | assumption | rfl)) ?_
  intro d sa ⟨h1a, h2a, r2a, h5a, hIa⟩
  obtain ⟨hd, hd2, hdeg⟩ := hIa
  have hml := misL_len n xs
  have hend : ¬ (d : Int) ≤ n → degO n xs p = -1 := fun h => by
    by_cases e : misL n xs = []
    · exact if_pos e
    · rw [hdeg e, show (n + 1 - (d : Int)).toNat = 0 by omega]; rfl
  simp (maxSteps := 5000000) -dsimp only [↓gp, gq, reduceCtorEq, Nat.reduceEqDiff, Nat.reduceLT, Nat.reduceLeDiff, Nat.reduceAdd, Nat.reduceMul, Nat.reduceSub, Nat.reduceBEq, Int.reduceToNat, Int.reduceLE, Int.reduceLT, Int.reduceNeg, Nat.reduceMod, sid_ne1, sid_ne2, sid_inj, sid_mod, gT, TK.isInt, TK.agg, Array.toList, h1a, h2a, r2a, h5a]
  refine ⟨fun h => askK_of (c_spec_MissingSets n xs) ?_, fun h => hend h⟩
  simp (maxSteps := 5000000) -dsimp only [↓gp, gq, reduceCtorEq, Nat.reduceEqDiff, Nat.reduceLT, Nat.reduceLeDiff, Nat.reduceAdd, Nat.reduceMul, Nat.reduceSub, Nat.reduceBEq, Int.reduceToNat, Int.reduceLE, Int.reduceLT, Int.reduceNeg, Nat.reduceMod, sid_ne1, sid_ne2, sid_inj, sid_mod, gT, TK.isInt, TK.agg, Array.toList, h1a, h2a, r2a, h5a, ofN_length]
  refine ⟨fun h0 => askK_of (c_spec_HasLinear n xs p d) ?_, fun h0 => ?_⟩
  · have hne : misL n xs ≠ [] := fun e => by rw [e] at h0; simp at h0
    obtain ⟨h1, h6⟩ := misL_cx hne
    have hst := hdeg hne
    rw [show (n + 1 - (d : Int)).toNat = (n + 1 - ((d + 1 : Nat) : Int)).toNat + 1 by omega] at hst
    unfold firstD at hst
    simp (maxSteps := 5000000) -dsimp only [↓gp, gq, reduceCtorEq, Nat.reduceEqDiff, Nat.reduceLT, Nat.reduceLeDiff, Nat.reduceAdd, Nat.reduceMul, Nat.reduceSub, Nat.reduceBEq, Int.reduceToNat, Int.reduceLE, Int.reduceLT, Int.reduceNeg, Nat.reduceMod, sid_ne1, sid_ne2, sid_inj, sid_mod, gT, TK.isInt, TK.agg, Array.toList, h1a, h2a, r2a, h5a, ofN_length]
    refine ⟨fun hl => ?_, fun hl => ?_⟩
    · rw [hst, if_pos hl]
    · rw [if_neg (by rw [hl]; decide)] at hst
      exact again_of (d + 1) (by refine ⟨?_, ?_, ?_, ?_, ⟨by omega, .inr ⟨hne, by omega⟩, fun _ => hst⟩⟩ <;> (first | (simp (maxSteps := 5000000) -dsimp only [gr, Nat.reduceEqDiff, Nat.reduceLT, Nat.reduceAdd, Nat.reduceMod, Nat.reduceBEq, sid_mod, sid_ne1, sid_ne2, sid_inj, h1a, h2a, r2a, h5a, wrap_nat (show d < 7 by omega) (by omega)]; first | done | rfl | (simp; done)) | assumption | rfl)) (by first | omega | (simp only; omega) | (dsimp only; omega) | (show _ < _; simp; omega))
  · have : misL n xs = [] := List.eq_nil_of_length_eq_zero (by omega)
    unfold degO
    rw [if_pos this]
theorem c_impl_LinearDegree (n : Int) (xs : List Int) (p : Int) : AC Try.prog 46 [.ag [int n, ints xs], int p] (.im (int (degO n xs p))) := by
  refine AC.go (rs := [.tmp 4]) T_ok mixed Try.func46 rfl rfl rfl (by kernel_rfl) fun hl => ?_
  simp (maxSteps := 5000000) -dsimp only [↓gp, gq, reduceCtorEq, Nat.reduceEqDiff, Nat.reduceLT, Nat.reduceLeDiff, Nat.reduceAdd, Nat.reduceMul, Nat.reduceSub, Nat.reduceBEq, Int.reduceToNat, Int.reduceLE, Int.reduceLT, Int.reduceNeg, Nat.reduceMod, sid_ne1, sid_ne2, sid_inj, sid_mod, gT, TK.isInt, TK.agg, Array.toList]
  refine askK_of (c_impl_BettiTableF n xs p) ?_
  have hsq := betR_sq n xs p
  have hml := misL_len n xs
  have hlin : ∀ d : Int, linO n xs p d = (decide (0 < (betR n xs p).length) && linM (betR n xs p) d) := fun d => rfl
  unfold degO
  simp only [hlin]
  generalize betR n xs p = M at *
  have hl7 := hsq.len
  simp (maxSteps := 5000000) -dsimp only [↓gp, gq, reduceCtorEq, Nat.reduceEqDiff, Nat.reduceLT, Nat.reduceLeDiff, Nat.reduceAdd, Nat.reduceMul, Nat.reduceSub, Nat.reduceBEq, Int.reduceToNat, Int.reduceLE, Int.reduceLT, Int.reduceNeg, Nat.reduceMod, sid_ne1, sid_ne2, sid_inj, sid_mod, gT, TK.isInt, TK.agg, Array.toList]
  have hno : M.length = 0 → ∀ k d, firstD (fun d => decide (0 < M.length) && linM M (d : Int)) d k = -1 := fun h => firstD_none fun d => by simp [h]
  refine ⟨fun h => askK_of (c_impl_MissingSets n xs) ?_, fun h => ?_⟩
  · have hM : decide (0 < M.length) = true := decide_eq_true (Nat.pos_of_ne_zero fun e => by rw [e] at h; simp at h)
    rw [hM]
    simp only [Bool.true_and]
    simp (maxSteps := 5000000) -dsimp only [↓gp, gq, reduceCtorEq, Nat.reduceEqDiff, Nat.reduceLT, Nat.reduceLeDiff, Nat.reduceAdd, Nat.reduceMul, Nat.reduceSub, Nat.reduceBEq, Int.reduceToNat, Int.reduceLE, Int.reduceLT, Int.reduceNeg, Nat.reduceMod, sid_ne1, sid_ne2, sid_inj, sid_mod, gT, TK.isInt, TK.agg, Array.toList, ofN_length]
    refine ⟨fun h0 => ?_, fun h0 => ?_⟩
    · have h0 : (misL n xs).length = 0 := by
        have : ((misL n xs).length : Int) = 0 := by simpa using h0
        omega
      rw [if_pos (List.eq_nil_of_length_eq_zero h0)]
    · have hne : misL n xs ≠ [] := fun e => by rw [e] at h0; simp at h0
      obtain ⟨h1, h6⟩ := misL_cx hne
      rw [if_neg hne]
      refine loop_of (fun (d : Nat) s => s.sl 2 = .ref 2 1 0 ∧ s.rw 2 = ⟨1, .box 24 [int n, ints xs]⟩ ∧ s.sl 5 = .own 9 1 ∧ s.rw 9 = ⟨1, .sli 22 1 false (iLL M)⟩ ∧ s.sl 6 = int d ∧ (1 ≤ d ∧ (d : Int) ≤ n + 1 ∧ firstD (fun d => linM M (d : Int)) 1 n.toNat = firstD (fun d => linM M (d : Int)) d (n + 1 - d).toNat)) (fun d => (n + 1 - d).toNat) (1) (by refine ⟨?_, ?_, ?_, ?_, ?_, ⟨by omega, by omega, by congr 1; omega⟩⟩ <;> (first | (simp (maxSteps := 5000000) -dsimp only [gr, Nat.reduceEqDiff, Nat.reduceLT, Nat.reduceAdd, Nat.reduceMod, Nat.reduceBEq, sid_mod, sid_ne1, sid_ne2, sid_inj]; first | done | rfl | (simp; done)) | assumption | rfl)) ?_
      intro d sa ⟨h2a, r2a, h5a, r9a, h6a, hIa⟩
      obtain ⟨hd, hd2, hst⟩ := hIa
      simp (maxSteps := 5000000) -dsimp only [↓gp, gq, reduceCtorEq, Nat.reduceEqDiff, Nat.reduceLT, Nat.reduceLeDiff, Nat.reduceAdd, Nat.reduceMul, Nat.reduceSub, Nat.reduceBEq, Int.reduceToNat, Int.reduceLE, Int.reduceLT, Int.reduceNeg, Nat.reduceMod, sid_ne1, sid_ne2, sid_inj, sid_mod, gT, TK.isInt, TK.agg, Array.toList, h2a, r2a, h5a, r9a, h6a]
      refine ⟨fun h => askK_of (c_impl_isLinearTable M d hsq) ?_, fun h => ?_⟩
      · rw [show (n + 1 - (d : Int)).toNat = (n + 1 - ((d + 1 : Nat) : Int)).toNat + 1 by omega] at hst
        rw [firstD] at hst
        simp (maxSteps := 5000000) -dsimp only [↓gp, gq, reduceCtorEq, Nat.reduceEqDiff, Nat.reduceLT, Nat.reduceLeDiff, Nat.reduceAdd, Nat.reduceMul, Nat.reduceSub, Nat.reduceBEq, Int.reduceToNat, Int.reduceLE, Int.reduceLT, Int.reduceNeg, Nat.reduceMod, sid_ne1, sid_ne2, sid_inj, sid_mod, gT, TK.isInt, TK.agg, Array.toList, h2a, r2a, h5a, r9a, h6a]
        refine ⟨fun hl => ?_, fun hl => ?_⟩
        · rw [hst, if_pos hl]
        · rw [if_neg (by rw [hl]; decide)] at hst
          exact again_of (d + 1) (by refine ⟨?_, ?_, ?_, ?_, ?_, ⟨by omega, by omega, hst⟩⟩ <;> (first | (simp (maxSteps := 5000000) -dsimp only [gr, Nat.reduceEqDiff, Nat.reduceLT, Nat.reduceAdd, Nat.reduceMod, Nat.reduceBEq, sid_mod, sid_ne1, sid_ne2, sid_inj, h2a, r2a, h5a, r9a, h6a, wrap_nat (show d < 7 by omega) (by omega)]; first | done | rfl | (simp; done)) | assumption | rfl)) (by first | omega | (simp only; omega) | (dsimp only; omega) | (show _ < _; simp; omega))
      · rw [hst, show (n + 1 - (d : Int)).toNat = 0 by omega]; rfl
  · have h : M.length = 0 := by
      have : (M.length : Int) = 0 := by simpa using h
      omega
    rw [hno h]; split <;> rfl
end Go.Proofs.Ytlapkhmehcnjeaa

namespace Go.Proofs.Ytlapkhmehcnjeaa
open Go.Abs
set_option linter.unusedSimpArgs false
set_option linter.unusedVariables false

theorem max_after {f : Nat → Bool} {l1 l2 : List Nat} {s : Nat} (h : ordN f = l1 ++ s :: l2) : (∃ t, t ∈ l2 ∧ s &&& t = s) ↔ extB f true s = false := by
  have hpw := ordN_pw f
  rw [h, List.pairwise_append] at hpw
  have hp2 := List.pairwise_cons.1 hpw.2.1
  have hs : s < 64 ∧ f s = true := mem_ordN.1 (by rw [h]; simp)
  constructor
  · rintro ⟨t, ht, hst⟩
    have hm : t < 64 ∧ f t = true := mem_ordN.1 (by rw [h]; simp [ht])
    cases hx : extB f true s with
    | false => rfl
    | true =>
      have := extB_iff'.1 hx t hm.1 hm.2 hst
      subst this
      exact absurd (hp2.1 t ht) befN_irrefl
  · intro hx
    have : ¬ ∀ t, t < 64 → f t = true → s &&& t = s → t = s := fun h => by rw [extB_iff'.2 h] at hx; cases hx
    obtain ⟨t, ht⟩ := Classical.not_forall.1 this
    have h1 : t < 64 := Classical.byContradiction fun h => ht fun h2 => absurd h2 h
    have h2 : f t = true := Classical.byContradiction fun h => ht fun _ h2 => absurd h2 h
    have h3 : s &&& t = s := Classical.byContradiction fun h => ht fun _ _ h2 => absurd h2 h
    have h4 : t ≠ s := fun e => ht fun _ _ _ => e
    have hlt := pop_sub h1 hs.1 h3 (Ne.symm h4)
    have hm : t ∈ l1 ++ s :: l2 := h ▸ mem_ordN.2 ⟨h1, h2⟩
    rcases List.mem_append.1 hm with hm | hm
    · have := hpw.2.2 t hm s (by simp)
      unfold befN at this
      omega
    · rcases List.mem_cons.1 hm with hm | hm
      · exact absurd hm h4
      · exact ⟨t, hm, h3⟩
theorem c_impl_maximalIn (G : Nat) (hG : G < 18446744073709551616) : AC Try.prog 138 [u64 G] (.fr 3 1 (iL (ofN (extN G.testBit true)))) := by
  refine AC.go (rs := [.tmp 2]) T_ok mixed Try.func138 rfl rfl rfl (by kernel_rfl) fun hl => ?_
  simp (maxSteps := 5000000) -dsimp only [↓gp, gq, reduceCtorEq, Nat.reduceEqDiff, Nat.reduceLT, Nat.reduceLeDiff, Nat.reduceAdd, Nat.reduceMul, Nat.reduceSub, Nat.reduceBEq, Int.reduceToNat, Int.reduceLE, Int.reduceLT, Int.reduceNeg, Nat.reduceMod, sid_ne1, sid_ne2, sid_inj, sid_mod, gT, TK.isInt, TK.agg, Array.toList]
  refine askK_of (c_impl_setsIn G hG) ?_
  simp (maxSteps := 5000000) -dsimp only [↓gp, gq, reduceCtorEq, Nat.reduceEqDiff, Nat.reduceLT, Nat.reduceLeDiff, Nat.reduceAdd, Nat.reduceMul, Nat.reduceSub, Nat.reduceBEq, Int.reduceToNat, Int.reduceLE, Int.reduceLT, Int.reduceNeg, Nat.reduceMod, sid_ne1, sid_ne2, sid_inj, sid_mod, gT, TK.isInt, TK.agg, Array.toList, ofN_length]
  have hfull := ordN_len G.testBit
  have hmem : ∀ k, k < (ordN G.testBit).length → (ordN G.testBit).getD k 0 < 64 := fun k hk => (mem_ordN.1 (getD_mem 0 hk)).1
  have hmax : ∀ k, k < (ordN G.testBit).length → ((∃ t, t ∈ (ordN G.testBit).drop (k + 1) ∧ (ordN G.testBit).getD k 0 &&& t = (ordN G.testBit).getD k 0) ↔ extB G.testBit true ((ordN G.testBit).getD k 0) = false) := fun k hk => max_after (split_at hk)
  unfold extN
  generalize ordN G.testBit = all at *
  refine loop_of (fun (za : Nat × Nat × Bool) s => match za with | (k, v, fz) => s.sl 3 = .own 11 1 ∧ s.rw 11 = ⟨1, .sli 3 1 fz (iL (ofN all))⟩ ∧ s.sl 4 = .own 4 v ∧ s.rw 4 = ⟨v, .sli 3 1 false (iL (ofN ((all.take k).filter (extB G.testBit true))))⟩ ∧ s.sl 12 = .own 11 1 ∧ s.sl 13 = int all.length ∧ s.sl 14 = int k ∧ (k ≤ all.length)) (fun (k, v, fz) => all.length - k) ((0, 1, false)) (by refine ⟨?_, ?_, ?_, ?_, ?_, ?_, ?_, by simp⟩ <;> (first | (simp (maxSteps := 5000000) -dsimp only [gr, Nat.reduceEqDiff, Nat.reduceLT, Nat.reduceAdd, Nat.reduceMod, Nat.reduceBEq, sid_mod, sid_ne1, sid_ne2, sid_inj, ofN_length]; first | done | rfl | (simp; done)) | assumption | rfl)) ?_
  intro (k, v, fz) sa ⟨h3a, r11a, h4a, r4a, h12a, h13a, h14a, hIa⟩
  have hflen : ((all.take k).filter (extB G.testBit true)).length ≤ k := Nat.le_trans filt_len (by simp; omega)
  by_cases hk : k < all.length
  · have hs := hmem k hk
    have hge : (ofN all).getD k 0 = ((all.getD k 0 : Nat) : Int) := ofN_getD hk
    have hwk := wrap_nat hk (by omega)
    have hdrop : ∀ j, j < (all.drop (k + 1)).length → ((all.drop (k + 1)).getD j 0) < 64 ∧ (ofN (all.drop (k + 1))).getD j 0 = (((all.drop (k + 1)).getD j 0 : Nat) : Int) := fun j hj => ⟨by
      have hm := List.mem_of_mem_drop (getD_mem 0 hj)
      obtain ⟨i, hi, e⟩ := mem_getD 0 hm
      rw [← e]; exact hmem i hi, ofN_getD hj⟩
    have hdl : (all.drop (k + 1)).length ≤ 448 := by simp; omega
    have hsub : ∀ j, j < (all.drop (k + 1)).length → (iandnot .i64 (all.getD k 0 : Nat) ((ofN (all.drop (k + 1))).getD j 0) = 0 ↔ all.getD k 0 &&& (all.drop (k + 1)).getD j 0 = all.getD k 0) := fun j hj => by
      have hd := hdrop j hj
      rw [hd.2, iandnot_nat (by omega) (by omega), ← xor_and_zero]
      omega
    have hofd : (ofN all).drop (k + 1) = ofN (all.drop (k + 1)) := by unfold ofN; rw [List.map_drop]
    have hmk := hmax k hk
    have hyes : extB G.testBit true (all.getD k 0) = true → ofN ((all.take (k + 1)).filter (extB G.testBit true)) = ofN ((all.take k).filter (extB G.testBit true)) ++ [((all.getD k 0 : Nat) : Int)] := fun h => by rw [filt_yes hk h, ofN_append, ofN_one]
    have hno : extB G.testBit true (all.getD k 0) = false → ofN ((all.take (k + 1)).filter (extB G.testBit true)) = ofN ((all.take k).filter (extB G.testBit true)) := fun h => by rw [filt_no hk h]
    cases fz with
    | false =>
      simp (maxSteps := 5000000) -dsimp only [↓gp, gq, reduceCtorEq, Nat.reduceEqDiff, Nat.reduceLT, Nat.reduceLeDiff, Nat.reduceAdd, Nat.reduceMul, Nat.reduceSub, Nat.reduceBEq, Int.reduceToNat, Int.reduceLE, Int.reduceLT, Int.reduceNeg, Nat.reduceMod, sid_ne1, sid_ne2, sid_inj, sid_mod, gT, TK.isInt, TK.agg, Array.toList, h3a, r11a, h4a, r4a, h12a, h13a, h14a, ofN_length, hge, hwk, Int.toNat_natCast, hofd]
      refine ⟨fun _ => ⟨hk, hk, by omega, ?_⟩, fun h => absurd hk h⟩
      refine loop_of (fun (j : Nat) s => s.sl 3 = .own 11 1 ∧ s.rw 11 = ⟨1, .sli 3 1 true (iL (ofN all))⟩ ∧ s.sl 4 = .own 4 v ∧ s.rw 4 = ⟨v, .sli 3 1 false (iL (ofN ((all.take k).filter (extB G.testBit true))))⟩ ∧ s.sl 12 = .own 11 1 ∧ s.sl 13 = int all.length ∧ s.sl 14 = int k ∧ s.sl 6 = int (all.getD k 0 : Nat) ∧ s.sl 7 = .v (.bool false) ∧ s.sl 22 = .sl true 1 (iL (ofN (all.drop (k + 1)))) ∧ s.sl 23 = int (all.drop (k + 1)).length ∧ s.sl 24 = int j ∧ (j ≤ (all.drop (k + 1)).length ∧ ∀ i, i < j → all.getD k 0 &&& (all.drop (k + 1)).getD i 0 ≠ all.getD k 0)) (fun j => (all.drop (k + 1)).length - j) (0) (by refine ⟨?_, ?_, ?_, ?_, ?_, ?_, ?_, ?_, ?_, ?_, ?_, ?_, by simp⟩ <;> (first | (simp (maxSteps := 5000000) -dsimp only [gr, Nat.reduceEqDiff, Nat.reduceLT, Nat.reduceAdd, Nat.reduceMod, Nat.reduceBEq, sid_mod, sid_ne1, sid_ne2, sid_inj, h3a, r11a, h4a, r4a, h12a, h13a, h14a, ofN_length, hge, hwk, hofd]; first | done | rfl | (simp; done)) | assumption | rfl)) ?_
      intro j sb ⟨h3b, r11b, h4b, r4b, h12b, h13b, h14b, h6b, h7b, h22b, h23b, h24b, hIb⟩
      obtain ⟨hj, hall⟩ := hIb
      simp (maxSteps := 5000000) -dsimp only [↓gp, gq, reduceCtorEq, Nat.reduceEqDiff, Nat.reduceLT, Nat.reduceLeDiff, Nat.reduceAdd, Nat.reduceMul, Nat.reduceSub, Nat.reduceBEq, Int.reduceToNat, Int.reduceLE, Int.reduceLT, Int.reduceNeg, Nat.reduceMod, sid_ne1, sid_ne2, sid_inj, sid_mod, gT, TK.isInt, TK.agg, Array.toList, h3b, r11b, h4b, r4b, h12b, h13b, h14b, h6b, h7b, h22b, h23b, h24b, ofN_length, hge, hwk]
      refine ⟨fun h2 => ⟨h2, h2, fun he => ?_, fun he => ?_⟩, fun h2 => ?_⟩
      · have hm := (hsub j h2).1 (by simpa using he)
        have hx := hmk.1 ⟨_, getD_mem 0 h2, hm⟩
        have e := hno hx
        exact again_of ((k + 1, v, true)) (by refine ⟨?_, ?_, ?_, ?_, ?_, ?_, ?_, by dsimp only; omega⟩ <;> (first | (simp (maxSteps := 5000000) -dsimp only [gr, Nat.reduceEqDiff, Nat.reduceLT, Nat.reduceAdd, Nat.reduceMod, Nat.reduceBEq, sid_mod, sid_ne1, sid_ne2, sid_inj, h3a, r11a, h4a, r4a, h12a, h13a, h14a, h3b, r11b, h4b, r4b, h12b, h13b, h14b, h6b, h7b, h22b, h23b, h24b, hwk, e]; first | done | rfl | (simp; done)) | assumption | rfl)) (by first | omega | (simp only; omega) | (dsimp only; omega) | (show _ < _; simp; omega))
      · have hm : ¬ all.getD k 0 &&& (all.drop (k + 1)).getD j 0 = all.getD k 0 := fun h => by rw [(hsub j h2).2 h] at he; simp at he
        have hw2 := wrap_nat h2 (by omega)
        have hall2 : ∀ i, i < j + 1 → all.getD k 0 &&& (all.drop (k + 1)).getD i 0 ≠ all.getD k 0 := fun i hi => by
          rcases Nat.lt_succ_iff_lt_or_eq.1 hi with hi | rfl
          · exact hall i hi
          · exact hm
        exact again_of (j + 1) (by refine ⟨?_, ?_, ?_, ?_, ?_, ?_, ?_, ?_, ?_, ?_, ?_, ?_, ⟨by omega, hall2⟩⟩ <;> (first | (simp (maxSteps := 5000000) -dsimp only [gr, Nat.reduceEqDiff, Nat.reduceLT, Nat.reduceAdd, Nat.reduceMod, Nat.reduceBEq, sid_mod, sid_ne1, sid_ne2, sid_inj, h3b, r11b, h4b, r4b, h12b, h13b, h14b, h6b, h7b, h22b, h23b, h24b, hw2]; first | done | rfl | (simp; done)) | assumption | rfl)) (by first | omega | (simp only; omega) | (dsimp only; omega) | (show _ < _; simp; omega))
      · have hx : extB G.testBit true (all.getD k 0) = true := by
          cases hb : extB G.testBit true (all.getD k 0) with
          | true => rfl
          | false =>
            obtain ⟨t, ht, hst⟩ := hmk.2 hb
            obtain ⟨i, hi, rfl⟩ := mem_getD 0 ht
            exact absurd hst (hall i (by omega))
        have e := hyes hx
        exact ⟨by omega, again_of ((k + 1, v + 1, true)) (by refine ⟨?_, ?_, ?_, ?_, ?_, ?_, ?_, by dsimp only; omega⟩ <;> (first | (simp (maxSteps := 5000000) -dsimp only [gr, Nat.reduceEqDiff, Nat.reduceLT, Nat.reduceAdd, Nat.reduceMod, Nat.reduceBEq, sid_mod, sid_ne1, sid_ne2, sid_inj, h3a, r11a, h4a, r4a, h12a, h13a, h14a, h3b, r11b, h4b, r4b, h12b, h13b, h14b, h6b, h7b, h22b, h23b, h24b, hwk, e]; first | done | rfl | (simp; done)) | assumption | rfl)) (by first | omega | (simp only; omega) | (dsimp only; omega) | (show _ < _; simp; omega))⟩
    | true =>
      simp (maxSteps := 5000000) -dsimp only [↓gp, gq, reduceCtorEq, Nat.reduceEqDiff, Nat.reduceLT, Nat.reduceLeDiff, Nat.reduceAdd, Nat.reduceMul, Nat.reduceSub, Nat.reduceBEq, Int.reduceToNat, Int.reduceLE, Int.reduceLT, Int.reduceNeg, Nat.reduceMod, sid_ne1, sid_ne2, sid_inj, sid_mod, gT, TK.isInt, TK.agg, Array.toList, h3a, r11a, h4a, r4a, h12a, h13a, h14a, ofN_length, hge, hwk, Int.toNat_natCast, hofd]
      refine ⟨fun _ => ⟨hk, hk, by omega, ?_⟩, fun h => absurd hk h⟩
      refine loop_of (fun (j : Nat) s => s.sl 3 = .own 11 1 ∧ s.rw 11 = ⟨1, .sli 3 1 true (iL (ofN all))⟩ ∧ s.sl 4 = .own 4 v ∧ s.rw 4 = ⟨v, .sli 3 1 false (iL (ofN ((all.take k).filter (extB G.testBit true))))⟩ ∧ s.sl 12 = .own 11 1 ∧ s.sl 13 = int all.length ∧ s.sl 14 = int k ∧ s.sl 6 = int (all.getD k 0 : Nat) ∧ s.sl 7 = .v (.bool false) ∧ s.sl 22 = .sl true 1 (iL (ofN (all.drop (k + 1)))) ∧ s.sl 23 = int (all.drop (k + 1)).length ∧ s.sl 24 = int j ∧ (j ≤ (all.drop (k + 1)).length ∧ ∀ i, i < j → all.getD k 0 &&& (all.drop (k + 1)).getD i 0 ≠ all.getD k 0)) (fun j => (all.drop (k + 1)).length - j) (0) (by refine ⟨?_, ?_, ?_, ?_, ?_, ?_, ?_, ?_, ?_, ?_, ?_, ?_, by simp⟩ <;> (first | (simp (maxSteps := 5000000) -dsimp only [gr, Nat.reduceEqDiff, Nat.reduceLT, Nat.reduceAdd, Nat.reduceMod, Nat.reduceBEq, sid_mod, sid_ne1, sid_ne2, sid_inj, h3a, r11a, h4a, r4a, h12a, h13a, h14a, ofN_length, hge, hwk, hofd]; first | done | rfl | (simp; done)) | assumption | rfl)) ?_
      intro j sb ⟨h3b, r11b, h4b, r4b, h12b, h13b, h14b, h6b, h7b, h22b, h23b, h24b, hIb⟩
      obtain ⟨hj, hall⟩ := hIb
      simp (maxSteps := 5000000) -dsimp only [↓gp, gq, reduceCtorEq, Nat.reduceEqDiff, Nat.reduceLT, Nat.reduceLeDiff, Nat.reduceAdd, Nat.reduceMul, Nat.reduceSub, Nat.reduceBEq, Int.reduceToNat, Int.reduceLE, Int.reduceLT, Int.reduceNeg, Nat.reduceMod, sid_ne1, sid_ne2, sid_inj, sid_mod, gT, TK.isInt, TK.agg, Array.toList, h3b, r11b, h4b, r4b, h12b, h13b, h14b, h6b, h7b, h22b, h23b, h24b, ofN_length, hge, hwk]
      refine ⟨fun h2 => ⟨h2, h2, fun he => ?_, fun he => ?_⟩, fun h2 => ?_⟩
      · have hm := (hsub j h2).1 (by simpa using he)
        have hx := hmk.1 ⟨_, getD_mem 0 h2, hm⟩
        have e := hno hx
        exact again_of ((k + 1, v, true)) (by refine ⟨?_, ?_, ?_, ?_, ?_, ?_, ?_, by dsimp only; omega⟩ <;> (first | (simp (maxSteps := 5000000) -dsimp only [gr, Nat.reduceEqDiff, Nat.reduceLT, Nat.reduceAdd, Nat.reduceMod, Nat.reduceBEq, sid_mod, sid_ne1, sid_ne2, sid_inj, h3a, r11a, h4a, r4a, h12a, h13a, h14a, h3b, r11b, h4b, r4b, h12b, h13b, h14b, h6b, h7b, h22b, h23b, h24b, hwk, e]; first | done | rfl | (simp; done)) | assumption | rfl)) (by first | omega | (simp only; omega) | (dsimp only; omega) | (show _ < _; simp; omega))
      · have hm : ¬ all.getD k 0 &&& (all.drop (k + 1)).getD j 0 = all.getD k 0 := fun h => by rw [(hsub j h2).2 h] at he; simp at he
        have hw2 := wrap_nat h2 (by omega)
        have hall2 : ∀ i, i < j + 1 → all.getD k 0 &&& (all.drop (k + 1)).getD i 0 ≠ all.getD k 0 := fun i hi => by
          rcases Nat.lt_succ_iff_lt_or_eq.1 hi with hi | rfl
          · exact hall i hi
          · exact hm
        exact again_of (j + 1) (by refine ⟨?_, ?_, ?_, ?_, ?_, ?_, ?_, ?_, ?_, ?_, ?_, ?_, ⟨by omega, hall2⟩⟩ <;> (first | (simp (maxSteps := 5000000) -dsimp only [gr, Nat.reduceEqDiff, Nat.reduceLT, Nat.reduceAdd, Nat.reduceMod, Nat.reduceBEq, sid_mod, sid_ne1, sid_ne2, sid_inj, h3b, r11b, h4b, r4b, h12b, h13b, h14b, h6b, h7b, h22b, h23b, h24b, hw2]; first | done | rfl | (simp; done)) | assumption | rfl)) (by first | omega | (simp only; omega) | (dsimp only; omega) | (show _ < _; simp; omega))
      · have hx : extB G.testBit true (all.getD k 0) = true := by
          cases hb : extB G.testBit true (all.getD k 0) with
          | true => rfl
          | false =>
            obtain ⟨t, ht, hst⟩ := hmk.2 hb
            obtain ⟨i, hi, rfl⟩ := mem_getD 0 ht
            exact absurd hst (hall i (by omega))
        have e := hyes hx
        exact ⟨by omega, again_of ((k + 1, v + 1, true)) (by refine ⟨?_, ?_, ?_, ?_, ?_, ?_, ?_, by dsimp only; omega⟩ <;> (first | (simp (maxSteps := 5000000) -dsimp only [gr, Nat.reduceEqDiff, Nat.reduceLT, Nat.reduceAdd, Nat.reduceMod, Nat.reduceBEq, sid_mod, sid_ne1, sid_ne2, sid_inj, h3a, r11a, h4a, r4a, h12a, h13a, h14a, h3b, r11b, h4b, r4b, h12b, h13b, h14b, h6b, h7b, h22b, h23b, h24b, hwk, e]; first | done | rfl | (simp; done)) | assumption | rfl)) (by first | omega | (simp only; omega) | (dsimp only; omega) | (show _ < _; simp; omega))⟩
  · simp (maxSteps := 5000000) -dsimp only [↓gp, gq, reduceCtorEq, Nat.reduceEqDiff, Nat.reduceLT, Nat.reduceLeDiff, Nat.reduceAdd, Nat.reduceMul, Nat.reduceSub, Nat.reduceBEq, Int.reduceToNat, Int.reduceLE, Int.reduceLT, Int.reduceNeg, Nat.reduceMod, sid_ne1, sid_ne2, sid_inj, sid_mod, gT, TK.isInt, TK.agg, Array.toList, h3a, r11a, h4a, r4a, h12a, h13a, h14a, ofN_length]
    refine ⟨fun h => absurd h hk, fun _ => ?_⟩
    have : k = all.length := by omega
    rw [this, List.take_length]
end Go.Proofs.Ytlapkhmehcnjeaa

namespace Go.Proofs.Ytlapkhmehcnjeaa
open Go.Abs
set_option linter.unusedSimpArgs false
set_option linter.unusedVariables false

theorem c_impl_complexOf (n : Int) (G : Nat) (hG : G < 18446744073709551616) : AC Try.prog 112 [int n, u64 G] (.ag [.im (int n), .fr 3 1 (iL (ofN (extN G.testBit true)))]) := by
  refine AC.go (rs := [.cell 4 24]) T_ok mixed Try.func112 rfl rfl rfl (by kernel_rfl) fun hl => ?_
  simp (maxSteps := 5000000) -dsimp only [↓gp, gq, reduceCtorEq, Nat.reduceEqDiff, Nat.reduceLT, Nat.reduceLeDiff, Nat.reduceAdd, Nat.reduceMul, Nat.reduceSub, Nat.reduceBEq, Int.reduceToNat, Int.reduceLE, Int.reduceLT, Int.reduceNeg, Nat.reduceMod, sid_ne1, sid_ne2, sid_inj, sid_mod, gT, TK.isInt, TK.agg, Array.toList]
  refine askK_of (c_impl_maximalIn G hG) ?_
  simp (maxSteps := 5000000) -dsimp only [↓gp, gq, reduceCtorEq, Nat.reduceEqDiff, Nat.reduceLT, Nat.reduceLeDiff, Nat.reduceAdd, Nat.reduceMul, Nat.reduceSub, Nat.reduceBEq, Int.reduceToNat, Int.reduceLE, Int.reduceLT, Int.reduceNeg, Nat.reduceMod, sid_ne1, sid_ne2, sid_inj, sid_mod, gT, TK.isInt, TK.agg, Array.toList]
/-- None of the sets lies within. -/
def avoidB (xs : List Int) (s : Nat) : Bool := xs.all fun x => !(x.toNat &&& s == x.toNat)
theorem avoidB_snoc {xs : List Int} {k s : Nat} (h : k < xs.length) : avoidB (xs.take (k + 1)) s = (avoidB (xs.take k) s && !((xs.getD k 0).toNat &&& s == (xs.getD k 0).toNat)) := by
  unfold avoidB
  rw [take_snoc 0 h, List.all_append]; simp
theorem avoid_test {x : Int} (hx : 0 ≤ x ∧ x < 64) {s : Nat} (hs : s < 64) : (iandnot .i64 x (s : Int) == 0) = (x.toNat &&& s == x.toNat) := by
  have e : x = ((x.toNat : Nat) : Int) := by omega
  have h := xor_and_zero (a := x.toNat) (b := s)
  rw [e, iandnot_nat (by omega) (by omega), Int.toNat_natCast]
  refine Bool.eq_iff_iff.2 ?_
  rw [beq_iff_eq, beq_iff_eq, ← h]
  omega
theorem avoid_test2 {x : Int} (hx : 0 ≤ x ∧ x < 64) {s : Nat} (hs : s < 64) : (iand .i64 x (s : Int) != x) = !(x.toNat &&& s == x.toNat) := by
  have e : x = ((x.toNat : Nat) : Int) := by omega
  rw [e, iand_nat (by omega) (by omega), Int.toNat_natCast]
  show (!(_ == _)) = _
  congr 1
  refine Bool.eq_iff_iff.2 ?_
  rw [beq_iff_eq, beq_iff_eq]
  omega
theorem c_impl_avoidsAll (xs : List Int) (u : Nat) (hx : okS xs) (hs : u < 64) : AC Try.prog 111 [int u, ints xs] (.im (bool (avoidB xs u))) := by
  refine AC.go (rs := [.tmp 4]) T_ok mixed Try.func111 rfl rfl rfl (by kernel_rfl) fun hl => ?_
  simp only [lens_cons, lens_nil, and_true, lens2_ag2, lens1_v, lens1_iL, lens2_iL, lens2_v, true_and] at hl
  simp (maxSteps := 5000000) -dsimp only [↓gp, gq, reduceCtorEq, Nat.reduceEqDiff, Nat.reduceLT, Nat.reduceLeDiff, Nat.reduceAdd, Nat.reduceMul, Nat.reduceSub, Nat.reduceBEq, Int.reduceToNat, Int.reduceLE, Int.reduceLT, Int.reduceNeg, Nat.reduceMod, sid_ne1, sid_ne2, sid_inj, sid_mod, gT, TK.isInt, TK.agg, Array.toList]
  refine loop_of (fun (k : Nat) s => s.sl 0 = int u ∧ s.sl 7 = ints xs ∧ s.sl 8 = int xs.length ∧ s.sl 9 = int k ∧ (k ≤ xs.length ∧ avoidB (xs.take k) u = true)) (fun k => xs.length - k) (0) (by refine ⟨?_, ?_, ?_, ?_, ⟨by omega, rfl⟩⟩ <;> (first | (simp (maxSteps := 5000000) -dsimp only [gr, Nat.reduceEqDiff, Nat.reduceLT, Nat.reduceAdd, Nat.reduceMod, Nat.reduceBEq, sid_mod, sid_ne1, sid_ne2, sid_inj]; first | done | rfl | (simp; done)) | assumption | rfl)) ?_
  intro k sa ⟨h0a, h7a, h8a, h9a, hIa⟩
  obtain ⟨hk, hz⟩ := hIa
  simp (maxSteps := 5000000) -dsimp only [↓gp, gq, reduceCtorEq, Nat.reduceEqDiff, Nat.reduceLT, Nat.reduceLeDiff, Nat.reduceAdd, Nat.reduceMul, Nat.reduceSub, Nat.reduceBEq, Int.reduceToNat, Int.reduceLE, Int.reduceLT, Int.reduceNeg, Nat.reduceMod, sid_ne1, sid_ne2, sid_inj, sid_mod, gT, TK.isInt, TK.agg, Array.toList, h0a, h7a, h8a, h9a]
  refine ⟨fun h => ⟨h, h, fun h0 => ?_, fun h0 => ?_⟩, fun h => ?_⟩
  · rw [avoid_test (okS_at hx h) hs] at h0
    cases hb : avoidB xs u with
    | false => rfl
    | true =>
      unfold avoidB at hb
      have := List.all_eq_true.1 hb _ (getD_mem 0 h)
      rw [h0] at this; cases this
  · rw [avoid_test (okS_at hx h) hs] at h0
    have hs2 := avoidB_snoc (s := u) h
    rw [h0, hz] at hs2
    exact again_of (k + 1) (by refine ⟨?_, ?_, ?_, ?_, ⟨by omega, hs2⟩⟩ <;> (first | (simp (maxSteps := 5000000) -dsimp only [gr, Nat.reduceEqDiff, Nat.reduceLT, Nat.reduceAdd, Nat.reduceMod, Nat.reduceBEq, sid_mod, sid_ne1, sid_ne2, sid_inj, h0a, h7a, h8a, h9a, wrap_nat h hl]; first | done | rfl | (simp; done)) | assumption | rfl)) (by first | omega | (simp only; omega) | (dsimp only; omega) | (show _ < _; simp; omega))
  · rw [List.take_of_length_le (by omega)] at hz
    rw [hz]
theorem c_impl_ApartComplex_1 (n : Int) (xs : List Int) (s : Nat) (hx : okS xs) (hs : s < 64) : AC Try.prog 110 [int s, .eref false [int n, ints xs] 0] (.im (bool (avoidB xs s))) := by
  refine AC.go (rs := [.tmp 3]) T_ok mixed Try.func110 rfl rfl rfl (by kernel_rfl) fun hl => ?_
  simp (maxSteps := 5000000) -dsimp only [↓gp, gq, reduceCtorEq, Nat.reduceEqDiff, Nat.reduceLT, Nat.reduceLeDiff, Nat.reduceAdd, Nat.reduceMul, Nat.reduceSub, Nat.reduceBEq, Int.reduceToNat, Int.reduceLE, Int.reduceLT, Int.reduceNeg, Nat.reduceMod, sid_ne1, sid_ne2, sid_inj, sid_mod, gT, TK.isInt, TK.agg, Array.toList]
  refine askK_of (c_impl_avoidsAll xs s hx hs) ?_
  simp (maxSteps := 5000000) -dsimp only [↓gp, gq, reduceCtorEq, Nat.reduceEqDiff, Nat.reduceLT, Nat.reduceLeDiff, Nat.reduceAdd, Nat.reduceMul, Nat.reduceSub, Nat.reduceBEq, Int.reduceToNat, Int.reduceLE, Int.reduceLT, Int.reduceNeg, Nat.reduceMod, sid_ne1, sid_ne2, sid_inj, sid_mod, gT, TK.isInt, TK.agg, Array.toList]
noncomputable def apF (n : Int) (xs : List Int) (s : Nat) : Bool := decide (s < 2 ^ n.toNat) && avoidB xs s
noncomputable def apL (n : Int) (xs : List Int) : List Int := if isGraph n xs = true then ofN (extN (apF n xs) true) else []
noncomputable def apN (n : Int) (xs : List Int) : Int := if isGraph n xs = true then n else 0
theorem graph_ok {n : Int} {xs : List Int} (h : isGraph n xs = true) : okS xs := fun x hx => inSet_lt ((graph_sets (isGraph_iff.1 h)).2.2.2 x hx)
theorem c_impl_ApartComplex (n : Int) (xs : List Int) : AC Try.prog 80 [.ag [int n, ints xs]] (.tup [.ag [.im (int (apN n xs)), .fr 3 1 (iL (apL n xs))], .im (bool (isGraph n xs))]) := by
  refine AC.go (rs := [.cell 2 24, .tmp 3]) T_ok mixed Try.func80 rfl rfl rfl (by kernel_rfl) fun hl => ?_
  simp (maxSteps := 5000000) -dsimp only [↓gp, gq, reduceCtorEq, Nat.reduceEqDiff, Nat.reduceLT, Nat.reduceLeDiff, Nat.reduceAdd, Nat.reduceMul, Nat.reduceSub, Nat.reduceBEq, Int.reduceToNat, Int.reduceLE, Int.reduceLT, Int.reduceNeg, Nat.reduceMod, sid_ne1, sid_ne2, sid_inj, sid_mod, gT, TK.isInt, TK.agg, Array.toList]
  refine askK_of (c_impl_IsGraph n xs) ?_
  simp (maxSteps := 5000000) -dsimp only [↓gp, gq, reduceCtorEq, Nat.reduceEqDiff, Nat.reduceLT, Nat.reduceLeDiff, Nat.reduceAdd, Nat.reduceMul, Nat.reduceSub, Nat.reduceBEq, Int.reduceToNat, Int.reduceLE, Int.reduceLT, Int.reduceNeg, Nat.reduceMod, sid_ne1, sid_ne2, sid_inj, sid_mod, gT, TK.isInt, TK.agg, Array.toList]
  unfold apN apL
  refine ⟨fun hg => ?_, fun hg => ?_⟩
  · have hg : isGraph n xs = false := by simpa using hg
    rw [hg]; exact ⟨rfl, rfl, rfl⟩
  · have hg : isGraph n xs = true := by simpa using hg
    have hx := graph_ok hg
    obtain ⟨h1, h6, _⟩ := isGraph_iff.1 hg
    obtain ⟨m, rfl⟩ : ∃ m : Nat, n = m := ⟨n.toNat, by omega⟩
    have h64 := two_pow_le (m := m) (by omega)
    refine askK_of (c_impl_pickSets m (by omega) _ [.eref false [int (m : Nat), ints xs] 0] (avoidB xs) (fun rw => rfl) fun s hs => c_impl_ApartComplex_1 _ xs s hx (by omega)) ?_
    simp (maxSteps := 5000000) -dsimp only [↓gp, gq, reduceCtorEq, Nat.reduceEqDiff, Nat.reduceLT, Nat.reduceLeDiff, Nat.reduceAdd, Nat.reduceMul, Nat.reduceSub, Nat.reduceBEq, Int.reduceToNat, Int.reduceLE, Int.reduceLT, Int.reduceNeg, Nat.reduceMod, sid_ne1, sid_ne2, sid_inj, sid_mod, gT, TK.isInt, TK.agg, Array.toList]
    refine askK_of (c_impl_complexOf m _ (mask_lt64 _ (by omega))) ?_
    have e : (maskF (avoidB xs) (2 ^ m)).testBit = apF m xs := funext fun s => by rw [maskF_bit]; rfl
    rw [e, if_pos hg, if_pos hg, hg]
    simp (maxSteps := 5000000) -dsimp only [↓gp, gq, reduceCtorEq, Nat.reduceEqDiff, Nat.reduceLT, Nat.reduceLeDiff, Nat.reduceAdd, Nat.reduceMul, Nat.reduceSub, Nat.reduceBEq, Int.reduceToNat, Int.reduceLE, Int.reduceLT, Int.reduceNeg, Nat.reduceMod, sid_ne1, sid_ne2, sid_inj, sid_mod, gT, TK.isInt, TK.agg, Array.toList]
theorem c_spec_l7From (n : Nat) (xs : List Int) (hn : n ≤ 6) (hx : okS xs) : AC Try.prog 107 [int n, ints xs] (.ag [.im (int n), .fr 3 1 (iL (ofN (extN (apF n xs) true)))]) := by
  refine AC.go (rs := [.cell 4 24]) T_ok mixed Try.func107 rfl rfl rfl (by kernel_rfl) fun hl => ?_
  simp only [lens_cons, lens_nil, and_true, lens2_ag2, lens1_v, lens1_iL, lens2_iL, lens2_v, true_and] at hl
  have h64 := two_pow_le hn
  have hsh : ishl .i64 1 (n : Int) = ((2 ^ n : Nat) : Int) := ishl_small hn
  have hun : IntKind.u64.wrap (n : Int) = (n : Int) := uwrap_id (by omega)
  simp (maxSteps := 5000000) -dsimp only [↓gp, gq, reduceCtorEq, Nat.reduceEqDiff, Nat.reduceLT, Nat.reduceLeDiff, Nat.reduceAdd, Nat.reduceMul, Nat.reduceSub, Nat.reduceBEq, Int.reduceToNat, Int.reduceLE, Int.reduceLT, Int.reduceNeg, Nat.reduceMod, sid_ne1, sid_ne2, sid_inj, sid_mod, gT, TK.isInt, TK.agg, Array.toList]
  refine loop_of (fun (za : Nat × Nat) s => match za with | (t, v) => s.sl 0 = int n ∧ s.sl 1 = ints xs ∧ s.sl 4 = .ref 4 1 0 ∧ s.rw 4 = ⟨1, .box 24 [int 0, .v (.slice none 0 0)]⟩ ∧ s.sl 5 = .own 9 v ∧ s.rw 9 = ⟨v, .sli 3 1 false (iL (ofN ((List.range t).filter (avoidB xs))))⟩ ∧ s.sl 6 = int t ∧ (t ≤ 2 ^ n)) (fun (t, v) => 2 ^ n - t) ((0, 1)) (by refine ⟨?_, ?_, ?_, ?_, ?_, ?_, ?_, by simp⟩ <;> (first | (simp (maxSteps := 5000000) -dsimp only [gr, Nat.reduceEqDiff, Nat.reduceLT, Nat.reduceAdd, Nat.reduceMod, Nat.reduceBEq, sid_mod, sid_ne1, sid_ne2, sid_inj]; first | done | rfl | (simp; done)) | assumption | rfl)) ?_
  intro (t, v) sa ⟨h0a, h1a, h4a, r4a, h5a, r9a, h6a, hIa⟩
  have hfl : ((List.range t).filter (avoidB xs)).length ≤ 64 := by
    have := List.length_filter_le (avoidB xs) (List.range t)
    rw [List.length_range] at this
    omega
  simp (maxSteps := 5000000) -dsimp only [↓gp, gq, reduceCtorEq, Nat.reduceEqDiff, Nat.reduceLT, Nat.reduceLeDiff, Nat.reduceAdd, Nat.reduceMul, Nat.reduceSub, Nat.reduceBEq, Int.reduceToNat, Int.reduceLE, Int.reduceLT, Int.reduceNeg, Nat.reduceMod, sid_ne1, sid_ne2, sid_inj, sid_mod, gT, TK.isInt, TK.agg, Array.toList, h0a, h1a, h4a, r4a, h5a, r9a, h6a, hsh, hun]
  refine ⟨fun h => ?_, fun h => ?_⟩
  · have hyes : avoidB xs t = true → ofN ((List.range (t + 1)).filter (avoidB xs)) = ofN ((List.range t).filter (avoidB xs)) ++ [(t : Int)] := fun h => by
      rw [List.range_succ, List.filter_append, ofN_append]
      simp [h, ofN]
    have hno : avoidB xs t = false → ofN ((List.range (t + 1)).filter (avoidB xs)) = ofN ((List.range t).filter (avoidB xs)) := fun h => by
      rw [List.range_succ, List.filter_append, ofN_append]
      simp [h, ofN]
    have hz : avoidB (xs.take 0) t = true := rfl
    refine loop_of (fun (k : Nat) s => s.sl 0 = int n ∧ s.sl 1 = ints xs ∧ s.sl 4 = .ref 4 1 0 ∧ s.rw 4 = ⟨1, .box 24 [int 0, .v (.slice none 0 0)]⟩ ∧ s.sl 5 = .own 9 v ∧ s.rw 9 = ⟨v, .sli 3 1 false (iL (ofN ((List.range t).filter (avoidB xs))))⟩ ∧ s.sl 6 = int t ∧ s.sl 7 = .v (.bool (avoidB (xs.take k) t)) ∧ s.sl 8 = int k ∧ (k ≤ xs.length)) (fun k => xs.length - k) (0) (by refine ⟨?_, ?_, ?_, ?_, ?_, ?_, ?_, ?_, ?_, by omega⟩ <;> (first | (simp (maxSteps := 5000000) -dsimp only [gr, Nat.reduceEqDiff, Nat.reduceLT, Nat.reduceAdd, Nat.reduceMod, Nat.reduceBEq, sid_mod, sid_ne1, sid_ne2, sid_inj, h0a, h1a, h4a, r4a, h5a, r9a, h6a, hz]; first | done | rfl | (simp; done)) | assumption | rfl)) ?_
    intro k sb ⟨h0b, h1b, h4b, r4b, h5b, r9b, h6b, h7b, h8b, hIb⟩
    by_cases hk : k < xs.length
    · have hs2 := avoidB_snoc (s := t) hk
      have htest := avoid_test2 (okS_at hx hk) (s := t) (by omega)
      simp (maxSteps := 5000000) -dsimp only [↓gp, gq, reduceCtorEq, Nat.reduceEqDiff, Nat.reduceLT, Nat.reduceLeDiff, Nat.reduceAdd, Nat.reduceMul, Nat.reduceSub, Nat.reduceBEq, Int.reduceToNat, Int.reduceLE, Int.reduceLT, Int.reduceNeg, Nat.reduceMod, sid_ne1, sid_ne2, sid_inj, sid_mod, gT, TK.isInt, TK.agg, Array.toList, h0b, h1b, h4b, r4b, h5b, r9b, h6b, h7b, h8b, htest]
      refine ⟨fun _ => ⟨by kernel_rfl, fun h3 => ⟨hk, hk, hk, hk, ?_⟩, fun h3 => ?_⟩, fun h => absurd hk h⟩
      · rw [h3, Bool.true_and] at hs2
        exact again_of (k + 1) (by refine ⟨?_, ?_, ?_, ?_, ?_, ?_, ?_, ?_, ?_, by omega⟩ <;> (first | (simp (maxSteps := 5000000) -dsimp only [gr, Nat.reduceEqDiff, Nat.reduceLT, Nat.reduceAdd, Nat.reduceMod, Nat.reduceBEq, sid_mod, sid_ne1, sid_ne2, sid_inj, h0b, h1b, h4b, r4b, h5b, r9b, h6b, h7b, h8b, wrap_nat hk (by omega), hs2]; first | done | rfl | (simp; done)) | assumption | rfl)) (by first | omega | (simp only; omega) | (dsimp only; omega) | (show _ < _; simp; omega))
      · rw [h3, Bool.false_and] at hs2
        exact again_of (k + 1) (by refine ⟨?_, ?_, ?_, ?_, ?_, ?_, ?_, ?_, ?_, by omega⟩ <;> (first | (simp (maxSteps := 5000000) -dsimp only [gr, Nat.reduceEqDiff, Nat.reduceLT, Nat.reduceAdd, Nat.reduceMod, Nat.reduceBEq, sid_mod, sid_ne1, sid_ne2, sid_inj, h0b, h1b, h4b, r4b, h5b, r9b, h6b, h7b, h8b, wrap_nat hk (by omega), hs2]; first | done | rfl | (simp; done)) | assumption | rfl)) (by first | omega | (simp only; omega) | (dsimp only; omega) | (show _ < _; simp; omega))
    · have ht : xs.take k = xs := List.take_of_length_le (by omega)
      rw [ht] at h7b
      simp (maxSteps := 5000000) -dsimp only [↓gp, gq, reduceCtorEq, Nat.reduceEqDiff, Nat.reduceLT, Nat.reduceLeDiff, Nat.reduceAdd, Nat.reduceMul, Nat.reduceSub, Nat.reduceBEq, Int.reduceToNat, Int.reduceLE, Int.reduceLT, Int.reduceNeg, Nat.reduceMod, sid_ne1, sid_ne2, sid_inj, sid_mod, gT, TK.isInt, TK.agg, Array.toList, h0b, h1b, h4b, r4b, h5b, r9b, h6b, h7b, h8b]
      refine ⟨fun h => absurd h hk, fun _ => ⟨fun hb => ?_, fun hb => ?_⟩⟩
      · have e := hyes hb
        exact ⟨by rw [ofN_length]; omega, again_of ((t + 1, v + 1)) (by refine ⟨?_, ?_, ?_, ?_, ?_, ?_, ?_, by dsimp only; omega⟩ <;> (first | (simp (maxSteps := 5000000) -dsimp only [gr, Nat.reduceEqDiff, Nat.reduceLT, Nat.reduceAdd, Nat.reduceMod, Nat.reduceBEq, sid_mod, sid_ne1, sid_ne2, sid_inj, h0a, h1a, h4a, r4a, h5a, r9a, h6a, h0b, h1b, h4b, r4b, h5b, r9b, h6b, h7b, h8b, wrap_nat h (by omega), e]; first | done | rfl | (simp; done)) | assumption | rfl)) (by first | omega | (simp only; omega) | (dsimp only; omega) | (show _ < _; simp; omega))⟩
      · have e := hno hb
        exact again_of ((t + 1, v)) (by refine ⟨?_, ?_, ?_, ?_, ?_, ?_, ?_, by dsimp only; omega⟩ <;> (first | (simp (maxSteps := 5000000) -dsimp only [gr, Nat.reduceEqDiff, Nat.reduceLT, Nat.reduceAdd, Nat.reduceMod, Nat.reduceBEq, sid_mod, sid_ne1, sid_ne2, sid_inj, h0a, h1a, h4a, r4a, h5a, r9a, h6a, h0b, h1b, h4b, r4b, h5b, r9b, h6b, h7b, h8b, wrap_nat h (by omega), e]; first | done | rfl | (simp; done)) | assumption | rfl)) (by first | omega | (simp only; omega) | (dsimp only; omega) | (show _ < _; simp; omega))
  · have : t = 2 ^ n := by omega
    subst this
    refine askK_of (c_spec_l3Make n _ (ofN_ok fun i hi => ?_)) ?_
    · have := List.mem_range.1 (List.mem_filter.1 hi).1; omega
    · have e : inF (ofN ((List.range (2 ^ n)).filter (avoidB xs))) = apF n xs := by funext s; exact mem_filt
      rw [e]
      simp (maxSteps := 5000000) -dsimp only [↓gp, gq, reduceCtorEq, Nat.reduceEqDiff, Nat.reduceLT, Nat.reduceLeDiff, Nat.reduceAdd, Nat.reduceMul, Nat.reduceSub, Nat.reduceBEq, Int.reduceToNat, Int.reduceLE, Int.reduceLT, Int.reduceNeg, Nat.reduceMod, sid_ne1, sid_ne2, sid_inj, sid_mod, gT, TK.isInt, TK.agg, Array.toList, h0a, h1a, h4a, r4a, h5a, r9a, h6a]
theorem c_spec_ApartComplex (n : Int) (xs : List Int) : AC Try.prog 79 [.ag [int n, ints xs]] (.tup [.ag [.im (int (apN n xs)), .fr 3 1 (iL (apL n xs))], .im (bool (isGraph n xs))]) := by
  refine AC.go (rs := [.cell 2 24, .tmp 3]) T_ok mixed Try.func79 rfl rfl rfl (by kernel_rfl) fun hl => ?_
  simp (maxSteps := 5000000) -dsimp only [↓gp, gq, reduceCtorEq, Nat.reduceEqDiff, Nat.reduceLT, Nat.reduceLeDiff, Nat.reduceAdd, Nat.reduceMul, Nat.reduceSub, Nat.reduceBEq, Int.reduceToNat, Int.reduceLE, Int.reduceLT, Int.reduceNeg, Nat.reduceMod, sid_ne1, sid_ne2, sid_inj, sid_mod, gT, TK.isInt, TK.agg, Array.toList]
  refine askK_of (c_spec_IsGraph n xs) ?_
  simp (maxSteps := 5000000) -dsimp only [↓gp, gq, reduceCtorEq, Nat.reduceEqDiff, Nat.reduceLT, Nat.reduceLeDiff, Nat.reduceAdd, Nat.reduceMul, Nat.reduceSub, Nat.reduceBEq, Int.reduceToNat, Int.reduceLE, Int.reduceLT, Int.reduceNeg, Nat.reduceMod, sid_ne1, sid_ne2, sid_inj, sid_mod, gT, TK.isInt, TK.agg, Array.toList]
  unfold apN apL
  refine ⟨fun hg => ?_, fun hg => ?_⟩
  · have hg : isGraph n xs = false := by simpa using hg
    rw [hg]; exact ⟨rfl, rfl, rfl⟩
  · have hg : isGraph n xs = true := by simpa using hg
    have hx := graph_ok hg
    obtain ⟨h1, h6, _⟩ := isGraph_iff.1 hg
    obtain ⟨m, rfl⟩ : ∃ m : Nat, n = m := ⟨n.toNat, by omega⟩
    refine askK_of (c_spec_l7From m xs (by omega) hx) ?_
    rw [if_pos hg, if_pos hg, hg]
    simp (maxSteps := 5000000) -dsimp only [↓gp, gq, reduceCtorEq, Nat.reduceEqDiff, Nat.reduceLT, Nat.reduceLeDiff, Nat.reduceAdd, Nat.reduceMul, Nat.reduceSub, Nat.reduceBEq, Int.reduceToNat, Int.reduceLE, Int.reduceLT, Int.reduceNeg, Nat.reduceMod, sid_ne1, sid_ne2, sid_inj, sid_mod, gT, TK.isInt, TK.agg, Array.toList]
noncomputable def gregO (n : Int) (xs : List Int) (p : Int) : Int := if isGraph n xs = true then regO n (apL n xs) p else -1
theorem c_spec_GraphRegularity (n : Int) (xs : List Int) (p : Int) : AC Try.prog 48 [.ag [int n, ints xs], int p] (.im (int (gregO n xs p))) := by
  refine AC.go (rs := [.tmp 4]) T_ok mixed Try.func48 rfl rfl rfl (by kernel_rfl) fun hl => ?_
  simp (maxSteps := 5000000) -dsimp only [↓gp, gq, reduceCtorEq, Nat.reduceEqDiff, Nat.reduceLT, Nat.reduceLeDiff, Nat.reduceAdd, Nat.reduceMul, Nat.reduceSub, Nat.reduceBEq, Int.reduceToNat, Int.reduceLE, Int.reduceLT, Int.reduceNeg, Nat.reduceMod, sid_ne1, sid_ne2, sid_inj, sid_mod, gT, TK.isInt, TK.agg, Array.toList]
  refine askK_of (c_spec_ApartComplex n xs) ?_
  simp (maxSteps := 5000000) -dsimp only [↓gp, gq, reduceCtorEq, Nat.reduceEqDiff, Nat.reduceLT, Nat.reduceLeDiff, Nat.reduceAdd, Nat.reduceMul, Nat.reduceSub, Nat.reduceBEq, Int.reduceToNat, Int.reduceLE, Int.reduceLT, Int.reduceNeg, Nat.reduceMod, sid_ne1, sid_ne2, sid_inj, sid_mod, gT, TK.isInt, TK.agg, Array.toList]
  unfold gregO
  refine ⟨fun hg => ?_, fun hg => ?_⟩
  · have hg : isGraph n xs = false := by simpa using hg
    rw [hg]; rfl
  · have hg : isGraph n xs = true := by simpa using hg
    have en : apN n xs = n := if_pos hg
    rw [en]
    refine askK_of (c_spec_RegularityOf n (apL n xs) p) ?_
    rw [if_pos hg]
    simp (maxSteps := 5000000) -dsimp only [↓gp, gq, reduceCtorEq, Nat.reduceEqDiff, Nat.reduceLT, Nat.reduceLeDiff, Nat.reduceAdd, Nat.reduceMul, Nat.reduceSub, Nat.reduceBEq, Int.reduceToNat, Int.reduceLE, Int.reduceLT, Int.reduceNeg, Nat.reduceMod, sid_ne1, sid_ne2, sid_inj, sid_mod, gT, TK.isInt, TK.agg, Array.toList]
theorem c_impl_GraphRegularity (n : Int) (xs : List Int) (p : Int) : AC Try.prog 50 [.ag [int n, ints xs], int p] (.im (int (gregO n xs p))) := by
  refine AC.go (rs := [.tmp 4]) T_ok mixed Try.func50 rfl rfl rfl (by kernel_rfl) fun hl => ?_
  simp (maxSteps := 5000000) -dsimp only [↓gp, gq, reduceCtorEq, Nat.reduceEqDiff, Nat.reduceLT, Nat.reduceLeDiff, Nat.reduceAdd, Nat.reduceMul, Nat.reduceSub, Nat.reduceBEq, Int.reduceToNat, Int.reduceLE, Int.reduceLT, Int.reduceNeg, Nat.reduceMod, sid_ne1, sid_ne2, sid_inj, sid_mod, gT, TK.isInt, TK.agg, Array.toList]
  refine askK_of (c_impl_ApartComplex n xs) ?_
  simp (maxSteps := 5000000) -dsimp only [↓gp, gq, reduceCtorEq, Nat.reduceEqDiff, Nat.reduceLT, Nat.reduceLeDiff, Nat.reduceAdd, Nat.reduceMul, Nat.reduceSub, Nat.reduceBEq, Int.reduceToNat, Int.reduceLE, Int.reduceLT, Int.reduceNeg, Nat.reduceMod, sid_ne1, sid_ne2, sid_inj, sid_mod, gT, TK.isInt, TK.agg, Array.toList]
  unfold gregO
  refine ⟨fun hg => askK_of (c_impl_IsFieldPrime p) ?_, fun hg => ?_⟩
  · have hg : isGraph n xs = true := by simpa using hg
    have en : apN n xs = n := if_pos hg
    rw [en, if_pos hg]
    simp (maxSteps := 5000000) -dsimp only [↓gp, gq, reduceCtorEq, Nat.reduceEqDiff, Nat.reduceLT, Nat.reduceLeDiff, Nat.reduceAdd, Nat.reduceMul, Nat.reduceSub, Nat.reduceBEq, Int.reduceToNat, Int.reduceLE, Int.reduceLT, Int.reduceNeg, Nat.reduceMod, sid_ne1, sid_ne2, sid_inj, sid_mod, gT, TK.isInt, TK.agg, Array.toList]
    refine ⟨fun hp => ?_, fun hp => askK_of (c_impl_RegularityOf n (apL n xs) p) ?_⟩
    · have hp : isP p = false := by simpa using hp
      unfold regO
      rw [betR_no (fun h => by rw [h.2] at hp; cases hp)]; rfl
    · simp (maxSteps := 5000000) -dsimp only [↓gp, gq, reduceCtorEq, Nat.reduceEqDiff, Nat.reduceLT, Nat.reduceLeDiff, Nat.reduceAdd, Nat.reduceMul, Nat.reduceSub, Nat.reduceBEq, Int.reduceToNat, Int.reduceLE, Int.reduceLT, Int.reduceNeg, Nat.reduceMod, sid_ne1, sid_ne2, sid_inj, sid_mod, gT, TK.isInt, TK.agg, Array.toList]
  · have hg : isGraph n xs = false := by simpa using hg
    rw [hg]; rfl
end Go.Proofs.Ytlapkhmehcnjeaa
