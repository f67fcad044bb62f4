/- DERIVED by an AI agent. -/
import Derived.Test.YtpnknaaehcljoaaGreatQ4
import Derived.Test.YtpnknaaehcljoaaGreatQ1
import Derived.Test.YtpnknaaehcljoaaGreatA16
import Derived.Test.YtpnknaaehcljoaaGreatP1
import Derived.Test.YtpnknaaehcljoaaGreatA15
import Derived.Test.YtpnknaaehcljoaaGreatQ2
import Derived.Test.YtpnknaaehcljoaaGreatQ3
namespace Go.Proofs.YtpnknaaehcljoaaGreat
open Go.Abs
open Nat (reduceEqDiff reduceMod reduceAdd reduceLT reduceLeDiff reduceSub reduceMul)
set_option linter.unusedSimpArgs false
set_option linter.unusedVariables false
def nxtL (n : Nat) (L : List (List Nat)) : List (List Nat) := L.flatMap fun l => (List.range n).flatMap fun x => if x ∈ l then [] else [l ++ [x]]
def bfsL (n : Nat) (L : List (List Nat)) : Nat → List (List Nat) | 0 => L | r + 1 => nxtL n (bfsL n L r)
theorem nxtL_append (n : Nat) (A B : List (List Nat)) : nxtL n (A ++ B) = nxtL n A ++ nxtL n B := by unfold nxtL; rw [List.flatMap_append]
theorem bfsL_append (n : Nat) (A B : List (List Nat)) : ∀ r, bfsL n (A ++ B) r = bfsL n A r ++ bfsL n B r
  | 0 => rfl
  | r + 1 => by rw [bfsL, bfsL, bfsL, bfsL_append n A B r, nxtL_append]
theorem bfsL_nil (n : Nat) : ∀ r, bfsL n [] r = []
  | 0 => rfl
  | r + 1 => by rw [bfsL, bfsL_nil n r]; rfl
theorem bfsL_flat (n r : Nat) : ∀ L : List (List Nat), bfsL n L r = L.flatMap fun l => bfsL n [l] r
  | [] => by rw [bfsL_nil]; rfl
  | l :: L => by rw [List.flatMap_cons, ← bfsL_flat n r L, ← bfsL_append]; rfl
theorem bfsL_head (n : Nat) : ∀ (r : Nat) (L : List (List Nat)), bfsL n L (r + 1) = bfsL n (nxtL n L) r
  | 0, L => rfl
  | r + 1, L => by rw [bfsL, bfsL_head n r L]; rfl
theorem bfsL_eq (n : Nat) : ∀ (m : Nat) (head : List Nat), bfsL n [head] m = namL n m head
  | 0, head => rfl
  | m + 1, head => by
    rw [bfsL_head, bfsL_flat, namL]
    have : nxtL n [head] = (List.range n).flatMap fun x => if x ∈ head then [] else [head ++ [x]] := by unfold nxtL; rw [List.flatMap_cons, List.flatMap_nil, List.append_nil]
    rw [this, List.flatMap_assoc]
    congr 1
    funext k
    split
    · rfl
    · rw [List.flatMap_cons, List.flatMap_nil, List.append_nil, bfsL_eq n m]
theorem bfsL_len : ∀ n, n < 7 → ∀ r, r < 7 → (bfsL n [[]] r).length ≤ 720 := by decide +kernel
theorem bfsL_pos : ∀ n, n < 7 → ∀ r, r < n + 1 → (((bfsL n [[]] r).all fun l => l.length == r) && decide (0 < (bfsL n [[]] r).length)) = true := by decide +kernel
def onL (l : List Nat) (x : Nat) : List (List Nat) := (List.range x).flatMap fun x => if x ∈ l then [] else [l ++ [x]]
theorem onL_succ (l : List Nat) (x : Nat) : onL l (x + 1) = onL l x ++ if x ∈ l then [] else [l ++ [x]] := by
  unfold onL; rw [List.range_succ, List.flatMap_append]; simp
theorem onL_len (l : List Nat) : ∀ x, (onL l x).length ≤ x
  | 0 => by simp [onL]
  | x + 1 => by
    have := onL_len l x
    rw [onL_succ, List.length_append]
    split <;> simp <;> omega
theorem nxtL_take (n : Nat) (L : List (List Nat)) {i : Nat} (h : i < L.length) : nxtL n (L.take (i + 1)) = nxtL n (L.take i) ++ onL (L.getD i []) n := by
  rw [take_snoc [] h, nxtL_append]
  congr 1
  unfold nxtL onL
  rw [List.flatMap_cons, List.flatMap_nil, List.append_nil]
theorem nxtL_len (n : Nat) (L : List (List Nat)) : (nxtL n L).length ≤ n * L.length := by
  induction L with
  | nil => simp [nxtL]
  | cons l L ih =>
    have : nxtL n (l :: L) = onL l n ++ nxtL n L := by unfold nxtL onL; rw [List.flatMap_cons]
    rw [this, List.length_append, List.length_cons, Nat.mul_succ]
    have := onL_len l n
    omega
theorem getD_ofN (L : List (List Nat)) (i : Nat) : (L.map ofN).getD i [] = ofN (L.getD i []) := by
  by_cases h : i < L.length
  · simp [List.getD, h]
  · simp [List.getD, h, ofN]
def DeadR (rw : Nat → Row) (r : Nat) : Prop := ∀ j, 100 + r ≤ j % 1000 → j % 1000 < 106 → rw j = ⟨0, .dead⟩
theorem DeadR.same {rw rw' : Nat → Row} {r : Nat} (h : DeadR rw r) (h' : ∀ j, 100 + r ≤ j % 1000 → j % 1000 < 106 → rw' j = rw j) : DeadR rw' r := fun j a b => by rw [h' j a b, h j a b]
theorem big_ne {j r c : Nat} (h : 100 + r ≤ j % 1000) (hc : c < 100) : (j = c) = False := eq_false (by omega)
theorem big_ne' {j r c : Nat} (h : 100 + r ≤ j % 1000) (hc : c < 100) : (c = j) = False := eq_false (by omega)
theorem c_impl_allNames (n : Nat) (h1 : 1 ≤ n) (h6 : n ≤ 6) : AC Tryz.prog 206 [int n] (.im (.sl true 1 (iLL ((namL n n []).map ofN)))) := by
  refine AC.go (rs := [.tmp 2]) T_ok mixed Tryz.func206 rfl rfl rfl (by kernel_rfl) fun hl => ?_
  simp (maxSteps:=5000000) -dsimp only [↓gp, gq, reduceCtorEq, reduceEqDiff, reduceLT, reduceLeDiff, reduceAdd, reduceMul, reduceSub, Nat.reduceBEq, Int.reduceToNat, Int.reduceLE, Int.reduceLT, Int.reduceNeg, reduceMod, sid_ne1, sid_ne2, sid_inj, sid_mod, gT, TK.isInt, TK.agg, Array.toList]
  refine loop_nilrow (k := 8) (v := 1) (e := 25) (d := 3) (n := 1) (by simp (maxSteps:=5000000) -dsimp only [gr, reduceEqDiff, reduceLT, reduceAdd, reduceMod, Nat.reduceBEq, sid_mod, sid_ne1, sid_ne2, sid_inj]; rfl) (by decide) (by simp (maxSteps:=5000000) -dsimp only [gr, reduceEqDiff, reduceLT, reduceAdd, reduceMod, Nat.reduceBEq, sid_mod, sid_ne1, sid_ne2, sid_inj]) (fun (r : Nat) s => s.sl 0 = int n ∧ s.sl 3 = .sl true 1 (iLL ((bfsL n [[]] r).map ofN)) ∧ (r ≤ n ∧ DeadR s.rw r)) (fun r => n - r) (0) (fun sX htX hslX hoX => (by refine ⟨?_, ?_, ⟨Nat.zero_le _, fun j a b => by
      have m1 := fun c => big_ne (c := c) a
      have m2 := fun c => big_ne' (c := c) a
      rw [hoX j (by simp; omega)]
      simp (maxSteps:=5000000) -dsimp only [gr, reduceEqDiff, reduceLT, reduceAdd, reduceMod, Nat.reduceBEq, sid_mod, sid_ne1, sid_ne2, sid_inj, m1, m2]⟩⟩ <;> (first | (simp (maxSteps:=5000000) -dsimp only [gr, reduceEqDiff, reduceLT, reduceAdd, reduceMod, Nat.reduceBEq, sid_mod, sid_ne1, sid_ne2, sid_inj, hslX, hoX, htX]; first | done | rfl | (simp; done)) | assumption | rfl))) ?_
  intro r sa ⟨h0a, h3a, hIa⟩
  obtain ⟨hr, hdead⟩ := hIa
  have hb1 := bfsL_pos n (by omega) r (by omega)
  have hb2 := bfsL_len n (by omega) r (by omega)
  rw [Bool.and_eq_true, decide_eq_true_eq, List.all_eq_true] at hb1
  have hnb : bfsL n [[]] (r + 1) = nxtL n (bfsL n [[]] r) := rfl
  generalize hL : bfsL n [[]] r = L at *
  have hlen : (L.map ofN).length = L.length := List.length_map _
  have h0 : ((L.map ofN).getD 0 []).length = r := by
    rw [getD_ofN, ofN_length]
    have := hb1.1 _ (getD_mem [] hb1.2)
    simpa using this
  simp (maxSteps:=5000000) -dsimp only [↓gp, gq, reduceCtorEq, reduceEqDiff, reduceLT, reduceLeDiff, reduceAdd, reduceMul, reduceSub, Nat.reduceBEq, Int.reduceToNat, Int.reduceLE, Int.reduceLT, Int.reduceNeg, reduceMod, sid_ne1, sid_ne2, sid_inj, sid_mod, gT, TK.isInt, TK.agg, Array.toList, h0a, h3a, h0]
  refine ⟨by omega, by omega, fun hrn => ?_, fun hrn => ?_⟩
  · obtain ⟨K, hK⟩ : ∃ K, K = 100 + r := ⟨_, rfl⟩
    have k1 : ∀ j, j < 100 → (K = j) = False := fun j hj => eq_false (by omega)
    have k2 : ∀ j, j < 100 → (j = K) = False := fun j hj => eq_false (by omega)
    have k3 : ∀ i j, j < 100 → (sid K i = j) = False := fun i j hj => sid_ne2 j K i (by omega)
    have k4 : ∀ i j, j < 100 → (j = sid K i) = False := fun i j hj => sid_ne1 j K i (by omega)
    have k5 : K % 1000 = K := by omega
    have k6 : ∀ i, (sid K i = K) = False := fun i => sid_ne2 K K i (by omega)
    have k7 : ∀ i, (K = sid K i) = False := fun i => sid_ne1 K K i (by omega)
    have d1 : sa.rw K = ⟨0, .dead⟩ := hdead K (by omega) (by omega)
    have d2 : ∀ i, sa.rw (sid K i) = ⟨0, .dead⟩ := fun i => hdead _ (by rw [sid_mod]; omega) (by rw [sid_mod]; omega)
    have m3 : ∀ j, 100 + (r + 1) ≤ j % 1000 → (j = K) = False := fun j hj => eq_false (by omega)
    have m4 : ∀ j, 100 + (r + 1) ≤ j % 1000 → (K = j) = False := fun j hj => eq_false (by omega)
    refine loop_gmv (j := 4) (v := (sa.rw 4).ver + 1) (k := K) (d := 4) (e := 25) (e2 := 3) (by simp (maxSteps:=5000000) -dsimp only [gr, reduceEqDiff, reduceLT, reduceAdd, reduceMod, Nat.reduceBEq, sid_mod, sid_ne1, sid_ne2, sid_inj]) (by decide) (by simp (maxSteps:=5000000) -dsimp only [gr, reduceEqDiff, reduceLT, reduceAdd, reduceMod, Nat.reduceBEq, sid_mod, sid_ne1, sid_ne2, sid_inj]) (by simp (maxSteps:=5000000) -dsimp only [gr, reduceEqDiff, reduceLT, reduceAdd, reduceMod, Nat.reduceBEq, sid_mod, sid_ne1, sid_ne2, sid_inj, k1, k2]; exact d1) (fun i => by simp (maxSteps:=5000000) -dsimp only [gr, reduceEqDiff, reduceLT, reduceAdd, reduceMod, Nat.reduceBEq, sid_mod, sid_ne1, sid_ne2, sid_inj, k3, k4]; exact d2 i) (by rw [k5]; simp; omega) (fun (zb : Nat × Nat) s => match zb with | (i, v) => s.sl 0 = int n ∧ s.sl 4 = .own K v ∧ s.sl 15 = .sl true 1 (iLL (L.map ofN)) ∧ s.sl 16 = int L.length ∧ s.sl 17 = int i ∧ (i ≤ L.length ∧ TabG s.rw K v 25 3 ((nxtL n (L.take i)).map ofN).length ((nxtL n (L.take i)).map ofN) ∧ DeadR s.rw (r + 1))) (fun (i, v) => L.length - i) ((0, 1)) (fun sX htX hslX hoX => (by refine ⟨?_, ?_, ?_, ?_, ?_, ⟨Nat.zero_le _, htX, fun j a b => by
        rw [hoX j (by rw [k5]; simp; omega) (by omega)]
        have m1 := fun c => big_ne (c := c) a
        have m2 := fun c => big_ne' (c := c) a
        simp (maxSteps:=5000000) -dsimp only [gr, reduceEqDiff, reduceLT, reduceAdd, reduceMod, Nat.reduceBEq, sid_mod, sid_ne1, sid_ne2, sid_inj, m1, m2]
        exact hdead j (by omega) b⟩⟩ <;> (first | (simp (maxSteps:=5000000) -dsimp only [gr, reduceEqDiff, reduceLT, reduceAdd, reduceMod, Nat.reduceBEq, sid_mod, sid_ne1, sid_ne2, sid_inj, hslX, hoX, h0a, h3a, hlen]; first | done | rfl | (simp; done)) | assumption | rfl))) ?_
    intro (i, v) sb ⟨h0b, h4b, h15b, h16b, h17b, hIb⟩
    obtain ⟨hi, htb, hdb⟩ := hIb
    simp (maxSteps:=5000000) -dsimp only [↓gp, gq, reduceCtorEq, reduceEqDiff, reduceLT, reduceLeDiff, reduceAdd, reduceMul, reduceSub, Nat.reduceBEq, Int.reduceToNat, Int.reduceLE, Int.reduceLT, Int.reduceNeg, reduceMod, sid_ne1, sid_ne2, sid_inj, sid_mod, gT, TK.isInt, TK.agg, Array.toList, h0b, h4b, h15b, h16b, h17b, hlen]
    refine ⟨fun h => ⟨by omega, by omega, ?_⟩, fun h => ?_⟩
    · have hil : i < L.length := by omega
      have hnt := nxtL_take n L hil
      have hll : (L.getD i []).length = r := by
        have := hb1.1 _ (getD_mem [] hil)
        simpa using this
      generalize hM1 : nxtL n (L.take i) = M1 at *
      have hM1l : M1.length ≤ 6 * 720 := by
        rw [← hM1]
        refine Nat.le_trans (nxtL_len _ _) (Nat.mul_le_mul h6 (by rw [List.length_take]; omega))
      generalize hl1 : L.getD i [] = l1 at *
      refine loop_of (fun (zc : Nat × Nat) s => match zc with | (x, v) => s.sl 0 = int n ∧ s.sl 4 = .own K v ∧ s.sl 15 = .sl true 1 (iLL (L.map ofN)) ∧ s.sl 16 = int L.length ∧ s.sl 17 = int i ∧ s.sl 6 = .sl true 1 (iL (ofN l1)) ∧ s.sl 7 = int x ∧ (x ≤ n ∧ TabG s.rw K v 25 3 ((M1 ++ onL l1 x).map ofN).length ((M1 ++ onL l1 x).map ofN) ∧ DeadR s.rw (r + 1))) (fun (x, v) => n - x) ((0, v)) (by refine ⟨?_, ?_, ?_, ?_, ?_, ?_, ?_, ⟨Nat.zero_le _, by
          have e : M1 ++ onL l1 0 = M1 := by simp [onL]
          rw [e]
          exact htb.same (by simp (maxSteps:=5000000) -dsimp only [gr, reduceEqDiff, reduceLT, reduceAdd, reduceMod, Nat.reduceBEq, sid_mod, sid_ne1, sid_ne2, sid_inj, k1, k2]) (fun x => by simp (maxSteps:=5000000) -dsimp only [gr, reduceEqDiff, reduceLT, reduceAdd, reduceMod, Nat.reduceBEq, sid_mod, sid_ne1, sid_ne2, sid_inj, k3, k4]), hdb.same fun j a b => by
          have m1 := fun c => big_ne (c := c) a
          have m2 := fun c => big_ne' (c := c) a
          simp (maxSteps:=5000000) -dsimp only [gr, reduceEqDiff, reduceLT, reduceAdd, reduceMod, Nat.reduceBEq, sid_mod, sid_ne1, sid_ne2, sid_inj, m1, m2]⟩⟩ <;> (first | (simp (maxSteps:=5000000) -dsimp only [gr, reduceEqDiff, reduceLT, reduceAdd, reduceMod, Nat.reduceBEq, sid_mod, sid_ne1, sid_ne2, sid_inj, h0b, h4b, h15b, h16b, h17b, getD_ofN, hl1]; first | done | rfl | (simp; done)) | assumption | rfl)) ?_
      intro (x, v) sc ⟨h0c, h4c, h15c, h16c, h17c, h6c, h7c, hIc⟩
      obtain ⟨hx, htc, hdc⟩ := hIc
      simp (maxSteps:=5000000) -dsimp only [↓gp, gq, reduceCtorEq, reduceEqDiff, reduceLT, reduceLeDiff, reduceAdd, reduceMul, reduceSub, Nat.reduceBEq, Int.reduceToNat, Int.reduceLE, Int.reduceLT, Int.reduceNeg, reduceMod, sid_ne1, sid_ne2, sid_inj, sid_mod, gT, TK.isInt, TK.agg, Array.toList, h0c, h4c, h15c, h16c, h17c, h6c, h7c]
      refine ⟨fun h2 => askK_of (c_slices_Contains _ _) ?_, fun h2 => ?_⟩
      · have hxn : x < n := by omega
        have hsu := onL_succ l1 x
        simp (maxSteps:=5000000) -dsimp only [↓gp, gq, reduceCtorEq, reduceEqDiff, reduceLT, reduceLeDiff, reduceAdd, reduceMul, reduceSub, Nat.reduceBEq, Int.reduceToNat, Int.reduceLE, Int.reduceLT, Int.reduceNeg, reduceMod, sid_ne1, sid_ne2, sid_inj, sid_mod, gT, TK.isInt, TK.agg, Array.toList, h0c, h4c, h15c, h16c, h17c, h6c, h7c]
        refine ⟨fun hm => ?_, fun hm => ?_⟩
        · have hm : x ∉ l1 := fun e => by rw [decide_eq_true (mem_ofN'.2 e)] at hm; cases hm
          rw [if_neg hm] at hsu
          refine askK_of (c_slices_Clone _ (by rw [ofN_length]; omega)) ?_
          simp (maxSteps:=5000000) -dsimp only [↓gp, gq, reduceCtorEq, reduceEqDiff, reduceLT, reduceLeDiff, reduceAdd, reduceMul, reduceSub, Nat.reduceBEq, Int.reduceToNat, Int.reduceLE, Int.reduceLT, Int.reduceNeg, reduceMod, sid_ne1, sid_ne2, sid_inj, sid_mod, gT, TK.isInt, TK.agg, Array.toList, h0c, h4c, h15c, h16c, h17c, h6c, h7c, ofN_length]
          refine ⟨by omega, orB_r ?_⟩
          generalize hM2 : (M1 ++ onL l1 x).map ofN = M2 at *
          have hM2l : M2.length ≤ 10000 := by
            rw [← hM2, List.length_map, List.length_append]
            have := onL_len l1 x; omega
          simp (maxSteps:=5000000) -dsimp only [↓gp, gq, reduceCtorEq, reduceEqDiff, reduceLT, reduceLeDiff, reduceAdd, reduceMul, reduceSub, Nat.reduceBEq, Int.reduceToNat, Int.reduceLE, Int.reduceLT, Int.reduceNeg, reduceMod, sid_ne1, sid_ne2, sid_inj, sid_mod, gT, TK.isInt, TK.agg, Array.toList, h0c, h4c, h15c, h16c, h17c, h6c, h7c, ofN_length, htc.top, cellsT_length, List.length_range, k1, k2]
          have e : (M1 ++ onL l1 (x + 1)).map ofN = M2 ++ [ofN (l1 ++ [x])] := by rw [hsu, ← List.append_assoc, List.map_append, hM2]; rfl
          refine ⟨by omega, ?_⟩
          exact again_grow0 (k := K) (v := v + 1) (e := 25) (e2 := 3) (n := M2.length) (d := 32) (vd := (sc.rw 32).ver + 1 + 1) (M := M2) (r := ofN (l1 ++ [x])) (by simp (maxSteps:=5000000) -dsimp only [gr, reduceEqDiff, reduceLT, reduceAdd, reduceMod, Nat.reduceBEq, sid_mod, sid_ne1, sid_ne2, sid_inj, k1, k2]) rfl (fun j hj => by simp (maxSteps:=5000000) -dsimp only [gr, reduceEqDiff, reduceLT, reduceAdd, reduceMod, Nat.reduceBEq, sid_mod, sid_ne1, sid_ne2, sid_inj, k3, k4, k6, k7, htc.row j hj]) (fun j hj => by simp (maxSteps:=5000000) -dsimp only [gr, reduceEqDiff, reduceLT, reduceAdd, reduceMod, Nat.reduceBEq, sid_mod, sid_ne1, sid_ne2, sid_inj, k3, k4, k6, k7, htc.rest j hj]) (by simp (maxSteps:=5000000) -dsimp only [gr, reduceEqDiff, reduceLT, reduceAdd, reduceMod, Nat.reduceBEq, sid_mod, sid_ne1, sid_ne2, sid_inj, k1, k2, ofN_snoc]) (by decide) (by rw [k5]; simp; omega) ((x + 1, v + 1)) (fun sX htX hslX hoX => (by refine ⟨?_, ?_, ?_, ?_, ?_, ?_, ?_, ⟨by dsimp only; omega, by rw [e, List.length_append, List.length_singleton]; exact htX, hdc.same fun j a b => by
            have m1 := fun c => big_ne (c := c) a
            have m2 := fun c => big_ne' (c := c) a
            rw [hoX j (by rw [k5]; simp; omega) (by simp; omega)]
            simp (maxSteps:=5000000) -dsimp only [gr, reduceEqDiff, reduceLT, reduceAdd, reduceMod, Nat.reduceBEq, sid_mod, sid_ne1, sid_ne2, sid_inj, m1, m2, m3 j a, m4 j a]⟩⟩ <;> (first | (simp (maxSteps:=5000000) -dsimp only [gr, reduceEqDiff, reduceLT, reduceAdd, reduceMod, Nat.reduceBEq, sid_mod, sid_ne1, sid_ne2, sid_inj, hslX, hoX, h0c, h4c, h15c, h16c, h17c, h6c, h7c, h0c, h4c, h15c, h16c, h17c, h6c, h7c, wrap_nat hxn (by omega), k1, k2]; first | done | rfl | (simp; done)) | assumption | rfl))) (by first | omega | (simp only; omega) | (dsimp only; omega) | (show _ < _; simp; omega))
        · have hm : x ∈ l1 := Classical.byContradiction fun e => by rw [decide_eq_false (fun e' => e (mem_ofN'.1 e'))] at hm; cases hm
          rw [if_pos hm, List.append_nil] at hsu
          exact again_of ((x + 1, v)) (by refine ⟨?_, ?_, ?_, ?_, ?_, ?_, ?_, ⟨by omega, by rw [hsu]; exact htc.same (by simp (maxSteps:=5000000) -dsimp only [gr, reduceEqDiff, reduceLT, reduceAdd, reduceMod, Nat.reduceBEq, sid_mod, sid_ne1, sid_ne2, sid_inj, k1, k2]) (fun x => by simp (maxSteps:=5000000) -dsimp only [gr, reduceEqDiff, reduceLT, reduceAdd, reduceMod, Nat.reduceBEq, sid_mod, sid_ne1, sid_ne2, sid_inj, k3, k4]), hdc.same fun j a b => by
            have m1 := fun c => big_ne (c := c) a
            have m2 := fun c => big_ne' (c := c) a
            simp (maxSteps:=5000000) -dsimp only [gr, reduceEqDiff, reduceLT, reduceAdd, reduceMod, Nat.reduceBEq, sid_mod, sid_ne1, sid_ne2, sid_inj, m1, m2]⟩⟩ <;> (first | (simp (maxSteps:=5000000) -dsimp only [gr, reduceEqDiff, reduceLT, reduceAdd, reduceMod, Nat.reduceBEq, sid_mod, sid_ne1, sid_ne2, sid_inj, h0c, h4c, h15c, h16c, h17c, h6c, h7c, wrap_nat hxn (by omega)]; first | done | rfl | (simp; done)) | assumption | rfl)) (by first | omega | (simp only; omega) | (dsimp only; omega) | (show _ < _; simp; omega))
      · have : x = n := by omega
        subst this
        exact again_of ((i + 1, v)) (by refine ⟨?_, ?_, ?_, ?_, ?_, ⟨by dsimp only; omega, by rw [hnt]; exact htc.same (by simp (maxSteps:=5000000) -dsimp only [gr, reduceEqDiff, reduceLT, reduceAdd, reduceMod, Nat.reduceBEq, sid_mod, sid_ne1, sid_ne2, sid_inj, k1, k2]) (fun x => by simp (maxSteps:=5000000) -dsimp only [gr, reduceEqDiff, reduceLT, reduceAdd, reduceMod, Nat.reduceBEq, sid_mod, sid_ne1, sid_ne2, sid_inj, k3, k4]), hdc.same fun j a b => by
            have m1 := fun c => big_ne (c := c) a
            have m2 := fun c => big_ne' (c := c) a
            simp (maxSteps:=5000000) -dsimp only [gr, reduceEqDiff, reduceLT, reduceAdd, reduceMod, Nat.reduceBEq, sid_mod, sid_ne1, sid_ne2, sid_inj, m1, m2]⟩⟩ <;> (first | (simp (maxSteps:=5000000) -dsimp only [gr, reduceEqDiff, reduceLT, reduceAdd, reduceMod, Nat.reduceBEq, sid_mod, sid_ne1, sid_ne2, sid_inj, h0b, h4b, h15b, h16b, h17b, h0c, h4c, h15c, h16c, h17c, h6c, h7c, wrap_nat h (by omega)]; first | done | rfl | (simp; done)) | assumption | rfl)) (by first | omega | (simp only; omega) | (dsimp only; omega) | (show _ < _; simp; omega))
    · have : i = L.length := by omega
      rw [this, List.take_length, ← hnb] at htb
      exact again_flat (k := K) (v := v) (e := 25) (e2 := 3) (q := List.range ((bfsL n [[]] (r + 1)).map ofN).length) (M := (bfsL n [[]] (r + 1)).map ofN) (d := 3) ((htb.done).same (by simp (maxSteps:=5000000) -dsimp only [gr, reduceEqDiff, reduceLT, reduceAdd, reduceMod, Nat.reduceBEq, sid_mod, sid_ne1, sid_ne2, sid_inj, k1, k2]) (fun x => by simp (maxSteps:=5000000) -dsimp only [gr, reduceEqDiff, reduceLT, reduceAdd, reduceMod, Nat.reduceBEq, sid_mod, sid_ne1, sid_ne2, sid_inj, k3, k4])) (by show K < 1000000; omega) (fun j hj => by
        have h5 := bfsL_len n (by omega) (r + 1) (by omega)
        have := List.mem_range.1 hj
        rw [List.length_map] at this
        rw [sid_eq]
        show _ < 1000000
        omega) (by simp (maxSteps:=5000000) -dsimp only [gr, reduceEqDiff, reduceLT, reduceAdd, reduceMod, Nat.reduceBEq, sid_mod, sid_ne1, sid_ne2, sid_inj, h0b, h4b, h15b, h16b, h17b]) (r + 1) (fun sX htX hslX hoX => (by refine ⟨?_, ?_, ⟨by omega, fun j a b => by
        rw [hoX j (by rw [k5]; simp; omega)]
        have m1 := fun c => big_ne (c := c) a
        have m2 := fun c => big_ne' (c := c) a
        simp (maxSteps:=5000000) -dsimp only [gr, reduceEqDiff, reduceLT, reduceAdd, reduceMod, Nat.reduceBEq, sid_mod, sid_ne1, sid_ne2, sid_inj, m1, m2]
        exact hdb j a b⟩⟩ <;> (first | (simp (maxSteps:=5000000) -dsimp only [gr, reduceEqDiff, reduceLT, reduceAdd, reduceMod, Nat.reduceBEq, sid_mod, sid_ne1, sid_ne2, sid_inj, hslX, hoX, h0a, h3a, htX, h0b, h4b, h15b, h16b, h17b]; first | done | rfl | (simp; done)) | assumption | rfl))) (by first | omega | (simp only; omega) | (dsimp only; omega) | (show _ < _; simp; omega))
  · have : r = n := by omega
    subst this
    rw [← hL, bfsL_eq]
    exact ⟨rfl, ⟨true, rfl⟩, by simp⟩
theorem cmp_lessL : ∀ xs ys : List Int, xs.length = ys.length → (decide (cmpL xs ys < 0)) = lessL xs ys
  | [], [], _ => rfl
  | [], _ :: _, h => by simp at h
  | _ :: _, [], h => by simp at h
  | a :: xs, b :: ys, h => by
    have ih := cmp_lessL xs ys (by simpa using h)
    unfold cmpL lessL icmp
    by_cases h1 : a = b
    · subst h1; simp; simpa using ih
    · rw [if_neg h1]
      by_cases h2 : a < b
      · simp [h2]
      · have h3 : b < a := by omega
        simp [h2, h3]
theorem bestL_len {m : Nat} (hm : m ≤ 6) {fs : List Nat} (hf : ∀ x ∈ fs, x < 2 ^ m) (hd : fs.Nodup) : ∀ (N : List (List Nat)) (b : List Int), (∀ ns ∈ N, goodN m ns) → b.length = fs.length → (bestL fs N b).length = fs.length
  | [], b, _, hb => hb
  | ns :: N, b, hN, hb => by
    have := bestL_len hm hf hd N (if lessL (cvL fs ns) b then cvL fs ns else b) (fun x hx => hN x (by simp [hx])) (by
      split
      · exact cvL_len hm (hN ns (by simp)) hf hd
      · exact hb)
    unfold bestL at *
    rw [List.foldl_cons]; exact this
theorem c_impl_CanonicalComplex (n : Int) (xs : List Int) : AC Tryz.prog 169 [.ag [int n, ints xs]] (.tup [.ag [.im (int (canP n xs (isCx n xs))), .fr 3 1 (iL (canR n xs))], .im (bool (isCx n xs))]) := by
  refine AC.go (rs := [.cell 2 27, .tmp 3]) T_ok mixed Tryz.func169 rfl rfl rfl (by kernel_rfl) fun hl => ?_
  simp only [lens_cons, lens_nil, and_true, lens2_ag2, lens1_v, lens1_iL, true_and] at hl
  simp (maxSteps:=5000000) -dsimp only [↓gp, gq, reduceCtorEq, reduceEqDiff, reduceLT, reduceLeDiff, reduceAdd, reduceMul, reduceSub, Nat.reduceBEq, Int.reduceToNat, Int.reduceLE, Int.reduceLT, Int.reduceNeg, reduceMod, sid_ne1, sid_ne2, sid_inj, sid_mod, gT, TK.isInt, TK.agg, Array.toList]
  refine askK_of (c_impl_IsComplex n xs) ?_
  simp (maxSteps:=5000000) -dsimp only [↓gp, gq, reduceCtorEq, reduceEqDiff, reduceLT, reduceLeDiff, reduceAdd, reduceMul, reduceSub, Nat.reduceBEq, Int.reduceToNat, Int.reduceLE, Int.reduceLT, Int.reduceNeg, reduceMod, sid_ne1, sid_ne2, sid_inj, sid_mod, gT, TK.isInt, TK.agg, Array.toList]
  refine ⟨fun hh => ?_, fun hh => ?_⟩
  · have hh : isCx n xs = false := by simpa using hh
    have : canR n xs = [] := by unfold canR; rw [if_neg (by rw [hh]; decide)]
    rw [hh, this]
    exact ⟨rfl, rfl, rfl⟩
  · have hh : isCx n xs = true := by simpa using hh
    obtain ⟨m, fs, rfl, hm1, hm6, hxs, hfs, hf, hfl, hnd⟩ := cx_nat hh
    have hcan : canR (m : Int) xs = bestL fs (namL m m []) xs := by unfold canR; rw [if_pos hh, hfs]; rfl
    have hcp : canP (m : Int) xs true = (m : Int) := if_pos rfl
    rw [hcan, hh, hcp]
    subst hxs
    have hxl := cx_len hh
    refine askK_of (c_slices_Clone (ofN fs) (by omega)) ?_
    simp (maxSteps:=5000000) -dsimp only [↓gp, gq, reduceCtorEq, reduceEqDiff, reduceLT, reduceLeDiff, reduceAdd, reduceMul, reduceSub, Nat.reduceBEq, Int.reduceToNat, Int.reduceLE, Int.reduceLT, Int.reduceNeg, reduceMod, sid_ne1, sid_ne2, sid_inj, sid_mod, gT, TK.isInt, TK.agg, Array.toList]
    refine askK_of (c_impl_allNames m hm1 hm6) ?_
    have hnl := namL_len m (by omega)
    have hgood : ∀ ns ∈ namL m m [], goodN m ns := fun ns h => namL_good h
    generalize namL m m [] = N at *
    have hml : (N.map ofN).length = N.length := by simp
    simp (maxSteps:=5000000) -dsimp only [↓gp, gq, reduceCtorEq, reduceEqDiff, reduceLT, reduceLeDiff, reduceAdd, reduceMul, reduceSub, Nat.reduceBEq, Int.reduceToNat, Int.reduceLE, Int.reduceLT, Int.reduceNeg, reduceMod, sid_ne1, sid_ne2, sid_inj, sid_mod, gT, TK.isInt, TK.agg, Array.toList, adopt_imsl, hml]
    refine loop_mvs (j := 14) (v := 1) (e := 3) (sz := 1) (c := iL (ofN fs)) (d := 4) (by simp (maxSteps:=5000000) -dsimp only [gr, reduceEqDiff, reduceLT, reduceAdd, reduceMod, Nat.reduceBEq, sid_mod, sid_ne1, sid_ne2, sid_inj]) (by simp (maxSteps:=5000000) -dsimp only [gr, reduceEqDiff, reduceLT, reduceAdd, reduceMod, Nat.reduceBEq, sid_mod, sid_ne1, sid_ne2, sid_inj]) 900 1 (by simp (maxSteps:=5000000) -dsimp only [gr, reduceEqDiff, reduceLT, reduceAdd, reduceMod, Nat.reduceBEq, sid_mod, sid_ne1, sid_ne2, sid_inj]) (by decide) rfl (fun (za : Nat × Nat) s => match za with | (k, u) => s.sl 1 = .ref 1 1 0 ∧ s.rw 1 = ⟨1, .box 27 [int m, ints (ofN fs)]⟩ ∧ s.sl 2 = .ref 2 1 0 ∧ s.rw 2 = ⟨1, .box 27 [int 0, .v (.slice none 0 0)]⟩ ∧ s.sl 4 = .own 900 u ∧ s.rw 900 = ⟨u, .sli 3 1 false (iL (bestL fs (N.take k) (ofN fs)))⟩ ∧ s.sl 17 = .sl true 1 (iLL (N.map ofN)) ∧ s.sl 18 = int N.length ∧ s.sl 19 = int k ∧ (k ≤ N.length)) (fun (k, u) => N.length - k) ((0, 1)) (fun sX htX hslX hoX => (by refine ⟨?_, ?_, ?_, ?_, ?_, ?_, ?_, ?_, ?_, by simp⟩ <;> (first | (simp (maxSteps:=5000000) -dsimp only [gr, reduceEqDiff, reduceLT, reduceAdd, reduceMod, Nat.reduceBEq, sid_mod, sid_ne1, sid_ne2, sid_inj, hslX, hoX, htX, hml]; first | done | rfl | (simp; done)) | assumption | rfl))) ?_
    intro (k, u) sa ⟨h1a, r1a, h2a, r2a, h4a, r900a, h17a, h18a, h19a, hIa⟩
    simp (maxSteps:=5000000) -dsimp only [↓gp, gq, reduceCtorEq, reduceEqDiff, reduceLT, reduceLeDiff, reduceAdd, reduceMul, reduceSub, Nat.reduceBEq, Int.reduceToNat, Int.reduceLE, Int.reduceLT, Int.reduceNeg, reduceMod, sid_ne1, sid_ne2, sid_inj, sid_mod, gT, TK.isInt, TK.agg, Array.toList, h1a, r1a, h2a, r2a, h4a, r900a, h17a, h18a, h19a, hml]
    refine ⟨fun h => ⟨h, h, ?_⟩, fun h => ?_⟩
    · have hmem : N.getD k [] ∈ N := getD_mem [] h
      have hg := hgood _ hmem
      have hgd := getD_ofN N k
      rw [hgd]
      have hf6 : ∀ x ∈ fs, x < 64 := fun x hx => Nat.lt_of_lt_of_le (hf x hx) (Nat.pow_le_pow_right (n := 2) (i := m) (j := 6) (by omega) hm6)
      refine askK_of (c_impl_renamedFacets fs (N.getD k []) hf6 hfl (by have := hg.len; omega) (hg.at6 hm6) (rnL_nd hm6 hg hf hnd)) ?_
      simp (maxSteps:=5000000) -dsimp only [↓gp, gq, reduceCtorEq, reduceEqDiff, reduceLT, reduceLeDiff, reduceAdd, reduceMul, reduceSub, Nat.reduceBEq, Int.reduceToNat, Int.reduceLE, Int.reduceLT, Int.reduceNeg, reduceMod, sid_ne1, sid_ne2, sid_inj, sid_mod, gT, TK.isInt, TK.agg, Array.toList, h1a, r1a, h2a, r2a, h4a, r900a, h17a, h18a, h19a]
      refine askK_of (c_slices_Compare _ _) ?_
      have hsn := bestL_snoc fs (N.take k) (N.getD k []) (ofN fs)
      rw [← take_snoc [] h] at hsn
      have hcl := cmp_lessL (cvL fs (N.getD k [])) (bestL fs (N.take k) (ofN fs)) (by
        rw [cvL_len hm6 hg hf hnd, bestL_len hm6 hf hnd _ _ (fun ns hns => hgood ns (List.mem_of_mem_take hns)) (ofN_length fs)])
      simp (maxSteps:=5000000) -dsimp only [↓gp, gq, reduceCtorEq, reduceEqDiff, reduceLT, reduceLeDiff, reduceAdd, reduceMul, reduceSub, Nat.reduceBEq, Int.reduceToNat, Int.reduceLE, Int.reduceLT, Int.reduceNeg, reduceMod, sid_ne1, sid_ne2, sid_inj, sid_mod, gT, TK.isInt, TK.agg, Array.toList, h1a, r1a, h2a, r2a, h4a, r900a, h17a, h18a, h19a]
      have hcv : ofN (ordN (inF (ofN (rnL fs (N.getD k []))))) = cvL fs (N.getD k []) := rfl
      rw [hcv]
      refine ⟨fun hle => ?_, fun hle => ?_⟩
      · rw [decide_eq_true hle] at hcl
        rw [if_pos hcl.symm] at hsn
        exact again_mvs (j := 26) (v := (sa.rw 26).ver + 1) (e := 3) (sz := 1) (c := iL (cvL fs (N.getD k []))) (d := 4) (by simp (maxSteps:=5000000) -dsimp only [gr, reduceEqDiff, reduceLT, reduceAdd, reduceMod, Nat.reduceBEq, sid_mod, sid_ne1, sid_ne2, sid_inj]) (by simp (maxSteps:=5000000) -dsimp only [gr, reduceEqDiff, reduceLT, reduceAdd, reduceMod, Nat.reduceBEq, sid_mod, sid_ne1, sid_ne2, sid_inj]) 900 (u + 1) (by simp (maxSteps:=5000000) -dsimp only [gr, reduceEqDiff, reduceLT, reduceAdd, reduceMod, Nat.reduceBEq, sid_mod, sid_ne1, sid_ne2, sid_inj, h1a, r1a, h2a, r2a, h4a, r900a, h17a, h18a, h19a]; exact Nat.lt_succ_self _) (by decide) rfl ((k + 1, u + 1)) (fun sX htX hslX hoX => (by refine ⟨?_, ?_, ?_, ?_, ?_, ?_, ?_, ?_, ?_, by dsimp only; omega⟩ <;> (first | (simp (maxSteps:=5000000) -dsimp only [gr, reduceEqDiff, reduceLT, reduceAdd, reduceMod, Nat.reduceBEq, sid_mod, sid_ne1, sid_ne2, sid_inj, hslX, hoX, h1a, r1a, h2a, r2a, h4a, r900a, h17a, h18a, h19a, htX, hsn, wrap_nat h (by omega)]; first | done | rfl | (simp; done)) | assumption | rfl))) (by first | omega | (simp only; omega) | (dsimp only; omega) | (show _ < _; simp; omega))
      · rw [decide_eq_false hle] at hcl
        rw [if_neg (by rw [← hcl]; decide)] at hsn
        exact again_of ((k + 1, u)) (by refine ⟨?_, ?_, ?_, ?_, ?_, ?_, ?_, ?_, ?_, by dsimp only; omega⟩ <;> (first | (simp (maxSteps:=5000000) -dsimp only [gr, reduceEqDiff, reduceLT, reduceAdd, reduceMod, Nat.reduceBEq, sid_mod, sid_ne1, sid_ne2, sid_inj, h1a, r1a, h2a, r2a, h4a, r900a, h17a, h18a, h19a, hsn, wrap_nat h (by omega)]; first | done | rfl | (simp; done)) | assumption | rfl)) (by first | omega | (simp only; omega) | (dsimp only; omega) | (show _ < _; simp; omega))
    · have : k = N.length := by omega
      rw [this, List.take_length]
def allP (l : List (List Int)) : Bool := l.all isPow
theorem c_spec_l2Same (xs ys : List Int) : AC Tryz.prog 174 [ints xs, ints ys] (.im (bool (decide (xs = ys)))) := by
  refine AC.go (rs := [.tmp 4]) T_ok mixed Tryz.func174 rfl rfl rfl (by kernel_rfl) fun hl => ?_
  simp only [lens_cons, lens2_iL, lens_nil, and_true] at hl
  simp (maxSteps:=5000000) -dsimp only [↓gp, gq, reduceCtorEq, reduceEqDiff, reduceLT, reduceLeDiff, reduceAdd, reduceMul, reduceSub, Nat.reduceBEq, Int.reduceToNat, Int.reduceLE, Int.reduceLT, Int.reduceNeg, reduceMod, sid_ne1, sid_ne2, sid_inj, sid_mod, gT, TK.isInt, TK.agg, Array.toList]
  refine ⟨fun h => ?_, fun h => ?_⟩
  · intro e
    simp [e] at h
  · have hn : xs.length = ys.length := by simp at h; omega
    refine loop_of (fun (i : Nat) s => s.sl 0 = ints xs ∧ s.sl 1 = ints ys ∧ s.sl 5 = int i ∧ i ≤ xs.length ∧ xs.take i = ys.take i) (fun i => xs.length - i) 0 ⟨by simp (maxSteps:=5000000) -dsimp only [gr, reduceEqDiff, reduceLT, reduceAdd, reduceMod, Nat.reduceBEq, sid_mod, sid_ne1, sid_ne2, sid_inj], by simp (maxSteps:=5000000) -dsimp only [gr, reduceEqDiff, reduceLT, reduceAdd, reduceMod, Nat.reduceBEq, sid_mod, sid_ne1, sid_ne2, sid_inj], by simp (maxSteps:=5000000) -dsimp only [gr, reduceEqDiff, reduceLT, reduceAdd, reduceMod, Nat.reduceBEq, sid_mod, sid_ne1, sid_ne2, sid_inj]; rfl, by simp, by simp⟩ ?_
    intro i s1 ⟨h0, h1, h5, hi, hall⟩
    simp (maxSteps:=5000000) -dsimp only [↓gp, gq, reduceCtorEq, reduceEqDiff, reduceLT, reduceLeDiff, reduceAdd, reduceMul, reduceSub, Nat.reduceBEq, Int.reduceToNat, Int.reduceLE, Int.reduceLT, Int.reduceNeg, reduceMod, sid_ne1, sid_ne2, sid_inj, sid_mod, gT, TK.isInt, TK.agg, Array.toList, h0, h1, h5]
    refine ⟨fun h => ⟨by kernel_rfl, h, h, by omega, by omega, fun ha => ?_, fun ha => ?_⟩, fun h => ?_⟩
    · intro e
      simp [e] at ha
    · refine again_of (i + 1) ⟨by simp (maxSteps:=5000000) -dsimp only [gr, reduceEqDiff, reduceLT, reduceAdd, reduceMod, Nat.reduceBEq, sid_mod, sid_ne1, sid_ne2, sid_inj, h0], by simp (maxSteps:=5000000) -dsimp only [gr, reduceEqDiff, reduceLT, reduceAdd, reduceMod, Nat.reduceBEq, sid_mod, sid_ne1, sid_ne2, sid_inj, h1], by simp (maxSteps:=5000000) -dsimp only [gr, reduceEqDiff, reduceLT, reduceAdd, reduceMod, Nat.reduceBEq, sid_mod, sid_ne1, sid_ne2, sid_inj]; rw [wrap_nat h hl.1], h, ?_⟩ (by omega)
      rw [take_snoc 0 h, take_snoc 0 (show i < ys.length by omega), hall]
      simp at ha
      simpa using ha
    · rw [List.take_of_length_le (by omega), List.take_of_length_le (by omega)] at hall
      exact hall
theorem c_spec_EqualComplex (n m : Int) (xs ys : List Int) : AC Tryz.prog 92 [.ag [int n, ints xs], .ag [int m, ints ys]] (.im (bool (decide (n = m ∧ xs = ys)))) := by
  refine AC.go (rs := [.tmp 4]) T_ok mixed Tryz.func92 rfl rfl rfl (by kernel_rfl) fun hl => ?_
  simp (maxSteps:=5000000) -dsimp only [↓gp, gq, reduceCtorEq, reduceEqDiff, reduceLT, reduceLeDiff, reduceAdd, reduceMul, reduceSub, Nat.reduceBEq, Int.reduceToNat, Int.reduceLE, Int.reduceLT, Int.reduceNeg, reduceMod, sid_ne1, sid_ne2, sid_inj, sid_mod, gT, TK.isInt, TK.agg, Array.toList]
  refine ⟨fun h => askK_of (c_spec_l2Same _ _) ?_, fun h => ?_⟩
  · have h : n = m := by simpa using h
    simp (maxSteps:=5000000) -dsimp only [↓gp, gq, reduceCtorEq, reduceEqDiff, reduceLT, reduceLeDiff, reduceAdd, reduceMul, reduceSub, Nat.reduceBEq, Int.reduceToNat, Int.reduceLE, Int.reduceLT, Int.reduceNeg, reduceMod, sid_ne1, sid_ne2, sid_inj, sid_mod, gT, TK.isInt, TK.agg, Array.toList]
    simp [h]
  · have h : n ≠ m := by simpa using h
    simp [h]
theorem c_slices_Equal (xs ys : List Int) : AC Tryz.prog 167 [ints xs, ints ys] (.im (bool (decide (xs = ys)))) := by
  refine AC.go (rs := [.tmp 4]) T_ok mixed Tryz.func167 rfl rfl rfl (by kernel_rfl) fun hl => ?_
  simp only [lens_cons, lens2_iL, lens_nil, and_true] at hl
  simp (maxSteps:=5000000) -dsimp only [↓gp, gq, reduceCtorEq, reduceEqDiff, reduceLT, reduceLeDiff, reduceAdd, reduceMul, reduceSub, Nat.reduceBEq, Int.reduceToNat, Int.reduceLE, Int.reduceLT, Int.reduceNeg, reduceMod, sid_ne1, sid_ne2, sid_inj, sid_mod, gT, TK.isInt, TK.agg, Array.toList]
  refine ⟨fun h => ?_, fun h => ?_⟩
  · intro e
    simp [e] at h
  · have hn : xs.length = ys.length := by simp at h; omega
    refine loop_of (fun (i : Nat) s => s.sl 0 = ints xs ∧ s.sl 1 = ints ys ∧ s.sl 12 = int xs.length ∧ s.sl 13 = int i ∧ (i ≤ xs.length ∧ xs.take i = ys.take i)) (fun i => xs.length - i) (0) (by refine ⟨?_, ?_, ?_, ?_, by simp⟩ <;> (first | (simp (maxSteps:=5000000) -dsimp only [gr, reduceEqDiff, reduceLT, reduceAdd, reduceMod, Nat.reduceBEq, sid_mod, sid_ne1, sid_ne2, sid_inj]; first | done | rfl | (simp; done)) | assumption | rfl)) ?_
    intro i sa ⟨h0a, h1a, h12a, h13a, hIa⟩
    obtain ⟨hi, hall⟩ := hIa
    simp (maxSteps:=5000000) -dsimp only [↓gp, gq, reduceCtorEq, reduceEqDiff, reduceLT, reduceLeDiff, reduceAdd, reduceMul, reduceSub, Nat.reduceBEq, Int.reduceToNat, Int.reduceLE, Int.reduceLT, Int.reduceNeg, reduceMod, sid_ne1, sid_ne2, sid_inj, sid_mod, gT, TK.isInt, TK.agg, Array.toList, h0a, h1a, h12a, h13a]
    refine ⟨fun h => ⟨by kernel_rfl, h, h, by omega, by omega, fun ha => ?_, fun ha => ?_⟩, fun h => ?_⟩
    · intro e
      simp [e] at ha
    · exact again_of (i + 1) (by refine ⟨?_, ?_, ?_, ?_, ⟨h, by
        rw [take_snoc 0 h, take_snoc 0 (show i < ys.length by omega), hall]
        simp at ha
        simpa using ha⟩⟩ <;> (first | (simp (maxSteps:=5000000) -dsimp only [gr, reduceEqDiff, reduceLT, reduceAdd, reduceMod, Nat.reduceBEq, sid_mod, sid_ne1, sid_ne2, sid_inj, h0a, h1a, h12a, h13a, wrap_nat h (by omega)]; first | done | rfl | (simp; done)) | assumption | rfl)) (by first | omega | (simp only; omega) | (dsimp only; omega) | (show _ < _; simp; omega))
    · rw [List.take_of_length_le (by omega), List.take_of_length_le (by omega)] at hall
      exact hall
theorem c_impl_EqualComplex (n m : Int) (xs ys : List Int) : AC Tryz.prog 170 [.ag [int n, ints xs], .ag [int m, ints ys]] (.im (bool (decide (n = m ∧ xs = ys)))) := by
  refine AC.go (rs := [.tmp 4]) T_ok mixed Tryz.func170 rfl rfl rfl (by kernel_rfl) fun hl => ?_
  simp (maxSteps:=5000000) -dsimp only [↓gp, gq, reduceCtorEq, reduceEqDiff, reduceLT, reduceLeDiff, reduceAdd, reduceMul, reduceSub, Nat.reduceBEq, Int.reduceToNat, Int.reduceLE, Int.reduceLT, Int.reduceNeg, reduceMod, sid_ne1, sid_ne2, sid_inj, sid_mod, gT, TK.isInt, TK.agg, Array.toList]
  refine ⟨fun h => askK_of (c_slices_Equal _ _) ?_, fun h => ?_⟩
  · have h : n = m := by simpa using h
    simp (maxSteps:=5000000) -dsimp only [↓gp, gq, reduceCtorEq, reduceEqDiff, reduceLT, reduceLeDiff, reduceAdd, reduceMul, reduceSub, Nat.reduceBEq, Int.reduceToNat, Int.reduceLE, Int.reduceLT, Int.reduceNeg, reduceMod, sid_ne1, sid_ne2, sid_inj, sid_mod, gT, TK.isInt, TK.agg, Array.toList]
    simp [h]
  · have h : n ≠ m := by simpa using h
    simp [h]
theorem c_impl_countBySize (f : Nat → Bool) : AC Tryz.prog 205 [u64 (maskF f 64 : Nat)] (.fr 3 1 (iL (fvec f))) := by
  refine AC.go (rs := [.tmp 2]) T_ok mixed Tryz.func205 rfl rfl rfl (by kernel_rfl) fun hl => ?_
  have hd := dimN_le f
  simp (maxSteps:=5000000) -dsimp only [↓gp, gq, reduceCtorEq, reduceEqDiff, reduceLT, reduceLeDiff, reduceAdd, reduceMul, reduceSub, Nat.reduceBEq, Int.reduceToNat, Int.reduceLE, Int.reduceLT, Int.reduceNeg, reduceMod, sid_ne1, sid_ne2, sid_inj, sid_mod, gT, TK.isInt, TK.agg, Array.toList]
  refine askK_of (c_impl_bySize f) ?_
  have hsl := sizesL_length f
  have hfl := fvec_length f
  simp (maxSteps:=5000000) -dsimp only [↓gp, gq, reduceCtorEq, reduceEqDiff, reduceLT, reduceLeDiff, reduceAdd, reduceMul, reduceSub, Nat.reduceBEq, Int.reduceToNat, Int.reduceLE, Int.reduceLT, Int.reduceNeg, reduceMod, sid_ne1, sid_ne2, sid_inj, sid_mod, gT, TK.isInt, TK.agg, Array.toList, hsl]
  refine loop_of (fun (za : Nat × Nat) s => match za with | (k, v) => s.sl 3 = .own 3 v ∧ s.rw 3 = ⟨v, .sli 3 1 false (iL ((fvec f).take k))⟩ ∧ s.sl 7 = .own 7 1 ∧ s.rw 7 = ⟨1, .sli 25 1 false (iLL (sizesL f))⟩ ∧ s.sl 8 = int (dimN f) ∧ s.sl 9 = int k ∧ (k ≤ dimN f)) (fun (k, v) => dimN f - k) ((0, 1)) (by refine ⟨?_, ?_, ?_, ?_, ?_, ?_, by simp⟩ <;> (first | (simp (maxSteps:=5000000) -dsimp only [gr, reduceEqDiff, reduceLT, reduceAdd, reduceMod, Nat.reduceBEq, sid_mod, sid_ne1, sid_ne2, sid_inj, hsl]; first | done | rfl | (simp; done)) | assumption | rfl)) ?_
  intro (k, v) sa ⟨h3a, r3a, h7a, r7a, h8a, h9a, hIa⟩
  simp (maxSteps:=5000000) -dsimp only [↓gp, gq, reduceCtorEq, reduceEqDiff, reduceLT, reduceLeDiff, reduceAdd, reduceMul, reduceSub, Nat.reduceBEq, Int.reduceToNat, Int.reduceLE, Int.reduceLT, Int.reduceNeg, reduceMod, sid_ne1, sid_ne2, sid_inj, sid_mod, gT, TK.isInt, TK.agg, Array.toList, h3a, r3a, h7a, r7a, h8a, h9a, hsl]
  refine ⟨fun h => ⟨h, h, ?_⟩, fun h => ?_⟩
  · have hg := sizesL_getD f h
    have hol := ordS_len f k (Nat.le_refl 64)
    have e : (fvec f).take (k + 1) = (fvec f).take k ++ [((ordS f k 64).length : Int)] := by
      rw [take_snoc 0 (by omega), fvec_getD f h]
    have hl2 : ((fvec f).take k).length ≤ 7 := by simp; omega
    simp (maxSteps:=5000000) -dsimp only [↓gp, gq, reduceCtorEq, reduceEqDiff, reduceLT, reduceLeDiff, reduceAdd, reduceMul, reduceSub, Nat.reduceBEq, Int.reduceToNat, Int.reduceLE, Int.reduceLT, Int.reduceNeg, reduceMod, sid_ne1, sid_ne2, sid_inj, sid_mod, gT, TK.isInt, TK.agg, Array.toList, h3a, r3a, h7a, r7a, h8a, h9a, hsl, hg, ofN_length]
    refine ⟨by omega, ?_⟩
    exact again_of ((k + 1, v + 1)) (by refine ⟨?_, ?_, ?_, ?_, ?_, ?_, by dsimp only; omega⟩ <;> (first | (simp (maxSteps:=5000000) -dsimp only [gr, reduceEqDiff, reduceLT, reduceAdd, reduceMod, Nat.reduceBEq, sid_mod, sid_ne1, sid_ne2, sid_inj, h3a, r3a, h7a, r7a, h8a, h9a, hg, ofN_length, e, wrap_nat h (by omega)]; first | done | rfl | (simp; done)) | assumption | rfl)) (by first | omega | (simp only; omega) | (dsimp only; omega) | (show _ < _; simp; omega))
  · have : k = (fvec f).length := by omega
    rw [this, List.take_length] at r3a
    rw [this, List.take_length]
def cbit (s : Nat) : Nat → Nat | 0 => 0 | k + 1 => cbit s k + if s.testBit k then 1 else 0
theorem pop_cbit : ∀ s, s < 64 → popN s = cbit s 6 := by decide +kernel
theorem cbit_more {s n : Nat} (h : s < 2 ^ n) : ∀ k, cbit s (n + k) = cbit s n
  | 0 => rfl
  | k + 1 => by
    rw [← Nat.add_assoc, cbit, cbit_more h k, Nat.testBit_lt_two_pow (Nat.lt_of_lt_of_le h (Nat.pow_le_pow_right (by omega) (by omega)))]
    simp
theorem lt_64 {n s : Nat} (hn : n ≤ 6) (h : s < 2 ^ n) : s < 64 := Nat.lt_of_lt_of_le h (Nat.pow_le_pow_right (n := 2) (i := n) (j := 6) (by omega) hn)
theorem renF_pop {n : Nat} (hn : n ≤ 6) {ns : List Nat} (h : goodN n ns) {s : Nat} (hs : s < 2 ^ n) : popN (renF s ns n) = popN s := by
  have key : ∀ k, k ≤ n → popN (renF s ns k) = cbit s k := by
    intro k
    induction k with
    | zero => intro _; rw [renF, popN_zero]; rfl
    | succ k ih =>
      intro hk
      have hx := h.at6 hn k (by rw [h.len]; omega)
      rw [renF, cbit, ← ih (by omega)]
      split
      · rename_i hb
        rw [pop_or _ (renF_lt s ns (h.at6 hn) k (by rw [h.len]; omega)) _ hx]
        rw [← Bool.not_eq_true, renF_bit]
        rintro ⟨i, h1, _, h3⟩
        exact h.ne h1 (by rw [h.len]; omega) h3
      · rfl
  rw [key n (Nat.le_refl _), pop_cbit s (lt_64 hn hs)]
  have := cbit_more hs (6 - n)
  rw [show n + (6 - n) = 6 by omega] at this
  exact this.symm
theorem renF_lt2 {n : Nat} {ns : List Nat} (h : goodN n ns) (s : Nat) : renF s ns n < 2 ^ n := by
  refine Nat.lt_pow_two_of_testBit _ fun i hi => ?_
  rw [← Bool.not_eq_true, renF_bit]
  rintro ⟨j, h1, _, h3⟩
  have := h.at (k := j) (by rw [h.len]; exact h1)
  omega
theorem renF_onto {n : Nat} (hn : n ≤ 6) {ns : List Nat} (h : goodN n ns) {u : Nat} (hu : u < 2 ^ n) : ∃ t, t < 2 ^ n ∧ renF t ns n = u := by
  have h1 : Has (fun x : Nat => x < 2 ^ n) (2 ^ n) := ⟨List.range (2 ^ n), List.nodup_range, fun x => List.mem_range, List.length_range⟩
  have h2 : Has (fun u : Nat => ∃ t, t < 2 ^ n ∧ renF t ns n = u) (2 ^ n) := h1.image (fun t => renF t ns n) (fun x y hx hy e => renF_inj hn h hx hy (by rw [h.len]; exact e)) fun y => Iff.rfl
  exact h1.sub_eq h2 (fun x ⟨t, _, e⟩ => e ▸ renF_lt2 h t) u hu
theorem renF_sub {n : Nat} {ns : List Nat} (h : goodN n ns) {s t : Nat} (ht : t < 2 ^ n) : s &&& t = t ↔ renF s ns n &&& renF t ns n = renF t ns n := by
  rw [sub_iff_bits, sub_iff_bits]
  constructor
  · intro hst j hj
    rw [renF_bit] at hj ⊢
    obtain ⟨i, h1, h2, h3⟩ := hj
    exact ⟨i, h1, hst i h2, h3⟩
  · intro hst i hi
    have hin : i < n := Nat.lt_of_not_le fun hle => by rw [Nat.testBit_lt_two_pow (Nat.lt_of_lt_of_le ht (Nat.pow_le_pow_right (by omega) hle))] at hi; cases hi
    have h1 := hst (ns.getD i 0) ((renF_bit t ns _ n).2 ⟨i, hin, hi, rfl⟩)
    obtain ⟨j, hj, h2, h3⟩ := (renF_bit s ns _ n).1 h1
    have : j = i := by
      rw [getD_at 0 (by rw [h.len]; exact hj), getD_at 0 (by rw [h.len]; exact hin)] at h3
      exact (List.getElem_inj h.nd).1 h3
    exact this ▸ h2
theorem mem_cvL {n : Nat} (hn : n ≤ 6) {ns : List Nat} (h : goodN n ns) {fs : List Nat} {u : Nat} : (u : Int) ∈ cvL fs ns ↔ ∃ x ∈ fs, renF x ns n = u := by
  unfold cvL
  rw [mem_ofN', mem_ordN, inF_ofN, decide_eq_true_eq]
  unfold rnL
  rw [List.mem_map, h.len]
  constructor
  · rintro ⟨_, x, hx, e⟩; exact ⟨x, hx, e⟩
  · rintro ⟨x, hx, e⟩; exact ⟨e ▸ lt_64 hn (renF_lt2 h x), x, hx, e⟩
theorem faceB_ofN' {fs : List Nat} {t : Nat} : faceB (ofN fs) t = true ↔ ∃ x ∈ fs, x &&& t = t := by
  rw [faceB_ofN, List.any_eq_true]
  simp only [beq_iff_eq]
theorem cvL_ofN (fs ns : List Nat) : ∃ l, cvL fs ns = ofN l := ⟨_, rfl⟩
theorem faceB_cvL {n : Nat} (hn : n ≤ 6) {ns : List Nat} (h : goodN n ns) {fs : List Nat} (hf : ∀ x ∈ fs, x < 2 ^ n) {t : Nat} (ht : t < 2 ^ n) : faceB (cvL fs ns) (renF t ns n) = faceB (ofN fs) t := by
  obtain ⟨l, hl⟩ := cvL_ofN fs ns
  have hm := fun u => mem_cvL hn h (fs := fs) (u := u)
  rw [hl] at hm ⊢
  rw [Bool.eq_iff_iff, faceB_ofN', faceB_ofN']
  constructor
  · rintro ⟨x, hx, e⟩
    obtain ⟨y, hy, rfl⟩ := (hm x).1 (mem_ofN'.2 hx)
    exact ⟨y, hy, (renF_sub h ht).2 e⟩
  · rintro ⟨y, hy, e⟩
    exact ⟨_, mem_ofN'.1 ((hm _).2 ⟨y, hy, rfl⟩), (renF_sub h ht).1 e⟩
theorem faceB_lt {n : Nat} {fs : List Nat} (hf : ∀ x ∈ fs, x < 2 ^ n) {t : Nat} (ht : faceB (ofN fs) t = true) : t < 2 ^ n := by
  obtain ⟨x, hx, e⟩ := faceB_ofN'.1 ht
  have := hf x hx
  have : t ≤ x := by rw [← e]; exact Nat.and_le_left
  omega
theorem cvL_counts {n : Nat} (hn : n ≤ 6) {ns : List Nat} (h : goodN n ns) {fs : List Nat} (hf : ∀ x ∈ fs, x < 2 ^ n) (k : Nat) : (ordS (faceB (cvL fs ns)) k 64).length = (ordS (faceB (ofN fs)) k 64).length := by
  have h1 : Has (cel (faceB (ofN fs)) k) _ := (Has.list (ordS_nd (faceB (ofN fs)) k 64)).congr fun a => mem_cel
  have h2 : Has (cel (faceB (cvL fs ns)) k) _ := (Has.list (ordS_nd (faceB (cvL fs ns)) k 64)).congr fun a => mem_cel
  refine h2.uniq (h1.image (fun t => renF t ns n) (fun x y hx hy e => renF_inj hn h (faceB_lt hf hx.2.1) (faceB_lt hf hy.2.1) (by rw [h.len]; exact e)) fun u => ?_)
  constructor
  · rintro ⟨hu, h3, h4⟩
    obtain ⟨l, hl⟩ := cvL_ofN fs ns
    have hu2 : u < 2 ^ n := by
      have hb : ∀ x ∈ l, x < 2 ^ n := fun x hx => by
        have := (mem_cvL hn h (fs := fs) (u := x)).1 (by rw [hl]; exact mem_ofN'.2 hx)
        obtain ⟨y, _, rfl⟩ := this
        exact renF_lt2 h y
      rw [hl] at h3
      exact faceB_lt hb h3
    obtain ⟨t, ht, rfl⟩ := renF_onto hn h hu2
    exact ⟨t, ⟨lt_64 hn ht, by rw [← faceB_cvL hn h hf ht]; exact h3, by rw [← h4, renF_pop hn h ht]⟩, rfl⟩
  · rintro ⟨t, ⟨_, h3, h4⟩, rfl⟩
    have ht := faceB_lt hf h3
    exact ⟨lt_64 hn (renF_lt2 h t), by rw [faceB_cvL hn h hf ht]; exact h3, by rw [renF_pop hn h ht, h4]⟩
theorem dimN_of_counts {f g : Nat → Bool} (h : ∀ k, (ordS f k 64).length = (ordS g k 64).length) : dimN f ≤ dimN g := by
  refine Classical.byContradiction fun hlt => ?_
  obtain ⟨s, hs, hf, hp⟩ := topP_ex (f := f) 64 (show 0 < dimN f by omega)
  have h1 : s ∈ ordS f (popN s) 64 := mem_ordS.2 ⟨hs, hf, rfl⟩
  have h2 := h (popN s)
  have hd : popN s + 1 = dimN f := hp
  rw [ordS_empty (f := g) (k := popN s) (by omega)] at h2
  rw [List.eq_nil_of_length_eq_zero (h2.trans rfl)] at h1
  cases h1
theorem fvec_of_counts {f g : Nat → Bool} (h : ∀ k, (ordS f k 64).length = (ordS g k 64).length) : fvec f = fvec g := by
  have hd : dimN f = dimN g := Nat.le_antisymm (dimN_of_counts h) (dimN_of_counts fun k => (h k).symm)
  refine List.ext_getElem (by rw [fvec_length, fvec_length, hd]) fun i a b => ?_
  have h1 := fvec_getD f (k := i) (by rw [fvec_length] at a; exact a)
  have h2 := fvec_getD g (k := i) (by rw [fvec_length] at b; exact b)
  rw [getD_at 0 a] at h1
  rw [getD_at 0 b] at h2
  rw [h1, h2, h i]
theorem bestL_from (fs : List Nat) : ∀ (N : List (List Nat)) (b : List Int), bestL fs N b = b ∨ ∃ ns ∈ N, bestL fs N b = cvL fs ns
  | [], b => .inl rfl
  | ns :: N, b => by
    have e : bestL fs (ns :: N) b = bestL fs N (if lessL (cvL fs ns) b then cvL fs ns else b) := rfl
    rw [e]
    rcases bestL_from fs N (if lessL (cvL fs ns) b then cvL fs ns else b) with h | ⟨n', h1, h2⟩
    · rw [h]
      split
      · exact .inr ⟨ns, by simp, rfl⟩
      · exact .inl rfl
    · exact .inr ⟨n', by simp [h1], h2⟩
theorem canR_counts {n : Int} {xs : List Int} (h : isCx n xs = true) : fvec (faceB (canR n xs)) = fvec (faceB xs) := by
  obtain ⟨m, fs, rfl, hm1, hm6, hxs, hfs, hf, hfl, hnd⟩ := cx_nat h
  have hcan : canR (m : Int) xs = bestL fs (namL m m []) xs := by unfold canR; rw [if_pos h, hfs]; rfl
  rw [hcan]
  subst hxs
  rcases bestL_from fs (namL m m []) (ofN fs) with h1 | ⟨ns, h1, h2⟩
  · rw [h1]
  · rw [h2]
    exact fvec_of_counts (cvL_counts hm6 (namL_good h1) hf)
noncomputable def fcR (n : Int) (xs : List Int) : List Int := if isCx n xs = true then fvec (faceB xs) else []
theorem c_impl_FaceCounts (n : Int) (xs : List Int) : AC Tryz.prog 168 [.ag [int n, ints xs]] (.fr 3 1 (iL (fcR n xs))) := by
  refine AC.go (rs := [.tmp 2]) T_ok mixed Tryz.func168 rfl rfl rfl (by kernel_rfl) fun hl => ?_
  simp (maxSteps:=5000000) -dsimp only [↓gp, gq, reduceCtorEq, reduceEqDiff, reduceLT, reduceLeDiff, reduceAdd, reduceMul, reduceSub, Nat.reduceBEq, Int.reduceToNat, Int.reduceLE, Int.reduceLT, Int.reduceNeg, reduceMod, sid_ne1, sid_ne2, sid_inj, sid_mod, gT, TK.isInt, TK.agg, Array.toList]
  refine askK_of (c_impl_IsComplex n xs) ?_
  simp (maxSteps:=5000000) -dsimp only [↓gp, gq, reduceCtorEq, reduceEqDiff, reduceLT, reduceLeDiff, reduceAdd, reduceMul, reduceSub, Nat.reduceBEq, Int.reduceToNat, Int.reduceLE, Int.reduceLT, Int.reduceNeg, reduceMod, sid_ne1, sid_ne2, sid_inj, sid_mod, gT, TK.isInt, TK.agg, Array.toList]
  refine ⟨fun hh => ?_, fun hh => ?_⟩
  · have hh : isCx n xs = false := by simpa using hh
    have : fcR n xs = [] := by unfold fcR; rw [if_neg (by rw [hh]; decide)]
    rw [this]; rfl
  · have hh : isCx n xs = true := by simpa using hh
    have : fcR n xs = fvec (faceB xs) := if_pos hh
    rw [this]
    refine askK_of (c_impl_facesIn n xs (cx_ok hh)) ?_
    simp (maxSteps:=5000000) -dsimp only [↓gp, gq, reduceCtorEq, reduceEqDiff, reduceLT, reduceLeDiff, reduceAdd, reduceMul, reduceSub, Nat.reduceBEq, Int.reduceToNat, Int.reduceLE, Int.reduceLT, Int.reduceNeg, reduceMod, sid_ne1, sid_ne2, sid_inj, sid_mod, gT, TK.isInt, TK.agg, Array.toList]
    refine askK_of (c_impl_countBySize _) ?_
    simp (maxSteps:=5000000) -dsimp only [↓gp, gq, reduceCtorEq, reduceEqDiff, reduceLT, reduceLeDiff, reduceAdd, reduceMul, reduceSub, Nat.reduceBEq, Int.reduceToNat, Int.reduceLE, Int.reduceLT, Int.reduceNeg, reduceMod, sid_ne1, sid_ne2, sid_inj, sid_mod, gT, TK.isInt, TK.agg, Array.toList]
noncomputable def alB (n : Int) (xs : List Int) (m : Int) (ys : List Int) : Bool := isCx n xs && isCx m ys && decide (n = m ∧ canR n xs = canR m ys)
theorem c_spec_AreAlike (n m : Int) (xs ys : List Int) : AC Tryz.prog 18 [.ag [int n, ints xs], .ag [int m, ints ys]] (.im (bool (alB n xs m ys))) := by
  refine AC.go (rs := [.tmp 4]) T_ok mixed Tryz.func18 rfl rfl rfl (by kernel_rfl) fun hl => ?_
  simp (maxSteps:=5000000) -dsimp only [↓gp, gq, reduceCtorEq, reduceEqDiff, reduceLT, reduceLeDiff, reduceAdd, reduceMul, reduceSub, Nat.reduceBEq, Int.reduceToNat, Int.reduceLE, Int.reduceLT, Int.reduceNeg, reduceMod, sid_ne1, sid_ne2, sid_inj, sid_mod, gT, TK.isInt, TK.agg, Array.toList]
  refine askK_of (c_spec_CanonicalComplex n xs) ?_
  simp (maxSteps:=5000000) -dsimp only [↓gp, gq, reduceCtorEq, reduceEqDiff, reduceLT, reduceLeDiff, reduceAdd, reduceMul, reduceSub, Nat.reduceBEq, Int.reduceToNat, Int.reduceLE, Int.reduceLT, Int.reduceNeg, reduceMod, sid_ne1, sid_ne2, sid_inj, sid_mod, gT, TK.isInt, TK.agg, Array.toList]
  refine askK_of (c_spec_CanonicalComplex m ys) ?_
  simp (maxSteps:=5000000) -dsimp only [↓gp, gq, reduceCtorEq, reduceEqDiff, reduceLT, reduceLeDiff, reduceAdd, reduceMul, reduceSub, Nat.reduceBEq, Int.reduceToNat, Int.reduceLE, Int.reduceLT, Int.reduceNeg, reduceMod, sid_ne1, sid_ne2, sid_inj, sid_mod, gT, TK.isInt, TK.agg, Array.toList]
  unfold alB
  refine ⟨fun h1 => ⟨fun h2 => ?_, fun h2 => by rw [h2]; simp⟩, fun h1 => by rw [h1]; simp⟩
  rw [h1, h2]
  refine askK_of (c_spec_EqualComplex _ _ _ _) ?_
  simp (maxSteps:=5000000) -dsimp only [↓gp, gq, reduceCtorEq, reduceEqDiff, reduceLT, reduceLeDiff, reduceAdd, reduceMul, reduceSub, Nat.reduceBEq, Int.reduceToNat, Int.reduceLE, Int.reduceLT, Int.reduceNeg, reduceMod, sid_ne1, sid_ne2, sid_inj, sid_mod, gT, TK.isInt, TK.agg, Array.toList]
  rfl
theorem alB_counts {n m : Int} {xs ys : List Int} (h : alB n xs m ys = true) : n = m ∧ fcR n xs = fcR m ys := by
  unfold alB at h
  simp only [Bool.and_eq_true, decide_eq_true_eq] at h
  obtain ⟨⟨h1, h2⟩, h3, h4⟩ := h
  refine ⟨h3, ?_⟩
  unfold fcR
  rw [if_pos h1, if_pos h2, ← canR_counts h1, ← canR_counts h2, h4]
theorem c_impl_AreAlike (n m : Int) (xs ys : List Int) : AC Tryz.prog 89 [.ag [int n, ints xs], .ag [int m, ints ys]] (.im (bool (alB n xs m ys))) := by
  refine AC.go (rs := [.tmp 4]) T_ok mixed Tryz.func89 rfl rfl rfl (by kernel_rfl) fun hl => ?_
  simp (maxSteps:=5000000) -dsimp only [↓gp, gq, reduceCtorEq, reduceEqDiff, reduceLT, reduceLeDiff, reduceAdd, reduceMul, reduceSub, Nat.reduceBEq, Int.reduceToNat, Int.reduceLE, Int.reduceLT, Int.reduceNeg, reduceMod, sid_ne1, sid_ne2, sid_inj, sid_mod, gT, TK.isInt, TK.agg, Array.toList]
  refine askK_of (c_impl_IsComplex n xs) ?_
  simp (maxSteps:=5000000) -dsimp only [↓gp, gq, reduceCtorEq, reduceEqDiff, reduceLT, reduceLeDiff, reduceAdd, reduceMul, reduceSub, Nat.reduceBEq, Int.reduceToNat, Int.reduceLE, Int.reduceLT, Int.reduceNeg, reduceMod, sid_ne1, sid_ne2, sid_inj, sid_mod, gT, TK.isInt, TK.agg, Array.toList]
  refine ⟨fun hh => ?_, fun hh => ?_⟩
  · have hh : isCx n xs = true := by simpa using hh
    refine askK_of (c_impl_IsComplex m ys) ?_
    simp (maxSteps:=5000000) -dsimp only [↓gp, gq, reduceCtorEq, reduceEqDiff, reduceLT, reduceLeDiff, reduceAdd, reduceMul, reduceSub, Nat.reduceBEq, Int.reduceToNat, Int.reduceLE, Int.reduceLT, Int.reduceNeg, reduceMod, sid_ne1, sid_ne2, sid_inj, sid_mod, gT, TK.isInt, TK.agg, Array.toList]
    refine ⟨fun hh2 => ?_, fun hh2 => ?_⟩
    · have hh2 : isCx m ys = false := by simpa using hh2
      unfold alB; rw [hh2]; simp
    · have hh2 : isCx m ys = true := by simpa using hh2
      refine ⟨by kernel_rfl, fun hnm => askK_of (c_impl_FaceCounts n xs) ?_, fun hnm => ?_⟩
      · have hnm : n = m := by simpa using hnm
        subst hnm
        simp (maxSteps:=5000000) -dsimp only [↓gp, gq, reduceCtorEq, reduceEqDiff, reduceLT, reduceLeDiff, reduceAdd, reduceMul, reduceSub, Nat.reduceBEq, Int.reduceToNat, Int.reduceLE, Int.reduceLT, Int.reduceNeg, reduceMod, sid_ne1, sid_ne2, sid_inj, sid_mod, gT, TK.isInt, TK.agg, Array.toList]
        refine askK_of (c_impl_FaceCounts n ys) ?_
        simp (maxSteps:=5000000) -dsimp only [↓gp, gq, reduceCtorEq, reduceEqDiff, reduceLT, reduceLeDiff, reduceAdd, reduceMul, reduceSub, Nat.reduceBEq, Int.reduceToNat, Int.reduceLE, Int.reduceLT, Int.reduceNeg, reduceMod, sid_ne1, sid_ne2, sid_inj, sid_mod, gT, TK.isInt, TK.agg, Array.toList]
        refine askK_of (c_slices_Equal _ _) ?_
        simp (maxSteps:=5000000) -dsimp only [↓gp, gq, reduceCtorEq, reduceEqDiff, reduceLT, reduceLeDiff, reduceAdd, reduceMul, reduceSub, Nat.reduceBEq, Int.reduceToNat, Int.reduceLE, Int.reduceLT, Int.reduceNeg, reduceMod, sid_ne1, sid_ne2, sid_inj, sid_mod, gT, TK.isInt, TK.agg, Array.toList]
        refine ⟨by kernel_rfl, fun hc => ?_, fun hc => askK_of (c_impl_CanonicalComplex n xs) ?_⟩
        · cases hb : alB n xs n ys with
          | false => rfl
          | true => rw [decide_eq_true (alB_counts hb).2] at hc; cases hc
        · simp (maxSteps:=5000000) -dsimp only [↓gp, gq, reduceCtorEq, reduceEqDiff, reduceLT, reduceLeDiff, reduceAdd, reduceMul, reduceSub, Nat.reduceBEq, Int.reduceToNat, Int.reduceLE, Int.reduceLT, Int.reduceNeg, reduceMod, sid_ne1, sid_ne2, sid_inj, sid_mod, gT, TK.isInt, TK.agg, Array.toList]
          refine askK_of (c_impl_CanonicalComplex n ys) ?_
          simp (maxSteps:=5000000) -dsimp only [↓gp, gq, reduceCtorEq, reduceEqDiff, reduceLT, reduceLeDiff, reduceAdd, reduceMul, reduceSub, Nat.reduceBEq, Int.reduceToNat, Int.reduceLE, Int.reduceLT, Int.reduceNeg, reduceMod, sid_ne1, sid_ne2, sid_inj, sid_mod, gT, TK.isInt, TK.agg, Array.toList]
          refine askK_of (c_impl_EqualComplex _ _ _ _) ?_
          simp (maxSteps:=5000000) -dsimp only [↓gp, gq, reduceCtorEq, reduceEqDiff, reduceLT, reduceLeDiff, reduceAdd, reduceMul, reduceSub, Nat.reduceBEq, Int.reduceToNat, Int.reduceLE, Int.reduceLT, Int.reduceNeg, reduceMod, sid_ne1, sid_ne2, sid_inj, sid_mod, gT, TK.isInt, TK.agg, Array.toList]
          unfold alB
          rw [hh, hh2]
          rfl
      · have hnm : n ≠ m := by simpa using hnm
        cases hb : alB n xs m ys with
        | false => rfl
        | true => exact absurd (alB_counts hb).1 hnm
  · have hh : isCx n xs = false := by simpa using hh
    unfold alB; rw [hh]; simp
noncomputable def exF (n : Int) (xs : List Int) : Nat → Nat → Int
  | _, 0 => 0
  | k, r + 1 => if alB (exPts k) (facs (exPs k)) n xs = true then k else exF n xs (k + 1) r
noncomputable def exR (n : Int) (xs : List Int) : Int := exF n xs 1 8
theorem c_impl_CountExamples : AC Tryz.prog 17 [] (.im (int 8)) := by
  refine AC.go (rs := [.tmp 0]) T_ok mixed Tryz.func17 rfl rfl rfl (by kernel_rfl) fun hl => ?_
  simp (maxSteps:=5000000) -dsimp only [↓gp, gq, reduceCtorEq, reduceEqDiff, reduceLT, reduceLeDiff, reduceAdd, reduceMul, reduceSub, Nat.reduceBEq, Int.reduceToNat, Int.reduceLE, Int.reduceLT, Int.reduceNeg, reduceMod, sid_ne1, sid_ne2, sid_inj, sid_mod, gT, TK.isInt, TK.agg, Array.toList]
theorem c_spec_CountExamples : AC Tryz.prog 90 [] (.im (int 8)) := by
  refine AC.go (rs := [.tmp 0]) T_ok mixed Tryz.func90 rfl rfl rfl (by kernel_rfl) fun hl => ?_
  simp (maxSteps:=5000000) -dsimp only [↓gp, gq, reduceCtorEq, reduceEqDiff, reduceLT, reduceLeDiff, reduceAdd, reduceMul, reduceSub, Nat.reduceBEq, Int.reduceToNat, Int.reduceLE, Int.reduceLT, Int.reduceNeg, reduceMod, sid_ne1, sid_ne2, sid_inj, sid_mod, gT, TK.isInt, TK.agg, Array.toList]
theorem c_impl_ExampleOf (n : Int) (xs : List Int) : AC Tryz.prog 12 [.ag [int n, ints xs]] (.im (int (exR n xs))) := by
  refine AC.go (rs := [.tmp 2]) T_ok mixed Tryz.func12 rfl rfl rfl (by kernel_rfl) fun hl => ?_
  simp (maxSteps:=5000000) -dsimp only [↓gp, gq, reduceCtorEq, reduceEqDiff, reduceLT, reduceLeDiff, reduceAdd, reduceMul, reduceSub, Nat.reduceBEq, Int.reduceToNat, Int.reduceLE, Int.reduceLT, Int.reduceNeg, reduceMod, sid_ne1, sid_ne2, sid_inj, sid_mod, gT, TK.isInt, TK.agg, Array.toList]
  refine loop_of (fun (k : Nat) s => s.sl 1 = .ref 1 1 0 ∧ s.rw 1 = ⟨1, .box 27 [int n, ints xs]⟩ ∧ s.sl 3 = int ((k + 1 : Nat) : Int) ∧ (k ≤ 8 ∧ exR n xs = exF n xs (k + 1) (8 - k))) (fun k => 8 - k) (0) (by refine ⟨?_, ?_, ?_, ⟨by omega, rfl⟩⟩ <;> (first | (simp (maxSteps:=5000000) -dsimp only [gr, reduceEqDiff, reduceLT, reduceAdd, reduceMod, Nat.reduceBEq, sid_mod, sid_ne1, sid_ne2, sid_inj]; first | done | rfl | (simp; done)) | assumption | rfl)) ?_
  intro k sa ⟨h1a, r1a, h3a, hIa⟩
  obtain ⟨hk, he⟩ := hIa
  rw [he]
  simp (maxSteps:=5000000) -dsimp only [↓gp, gq, reduceCtorEq, reduceEqDiff, reduceLT, reduceLeDiff, reduceAdd, reduceMul, reduceSub, Nat.reduceBEq, Int.reduceToNat, Int.reduceLE, Int.reduceLT, Int.reduceNeg, reduceMod, sid_ne1, sid_ne2, sid_inj, sid_mod, gT, TK.isInt, TK.agg, Array.toList, h1a, r1a, h3a]
  refine askK_of c_impl_CountExamples ?_
  simp (maxSteps:=5000000) -dsimp only [↓gp, gq, reduceCtorEq, reduceEqDiff, reduceLT, reduceLeDiff, reduceAdd, reduceMul, reduceSub, Nat.reduceBEq, Int.reduceToNat, Int.reduceLE, Int.reduceLT, Int.reduceNeg, reduceMod, sid_ne1, sid_ne2, sid_inj, sid_mod, gT, TK.isInt, TK.agg, Array.toList, h1a, r1a, h3a]
  refine ⟨fun h => askK_of (c_impl_ExampleComplex _) ?_, fun h => ?_⟩
  · have hk8 : k < 8 := by omega
    have e8 : 8 - k = (8 - (k + 1)) + 1 := by omega
    have hs : exF n xs (k + 1) (8 - k) = if alB (exPts ((k + 1 : Nat) : Int)) (facs (exPs ((k + 1 : Nat) : Int))) n xs = true then ((k + 1 : Nat) : Int) else exF n xs (k + 1 + 1) (8 - (k + 1)) := by rw [e8, exF]
    rw [hs]
    simp (maxSteps:=5000000) -dsimp only [↓gp, gq, reduceCtorEq, reduceEqDiff, reduceLT, reduceLeDiff, reduceAdd, reduceMul, reduceSub, Nat.reduceBEq, Int.reduceToNat, Int.reduceLE, Int.reduceLT, Int.reduceNeg, reduceMod, sid_ne1, sid_ne2, sid_inj, sid_mod, gT, TK.isInt, TK.agg, Array.toList, h1a, r1a, h3a]
    refine askK_of (c_impl_AreAlike _ n _ xs) ?_
    simp (maxSteps:=5000000) -dsimp only [↓gp, gq, reduceCtorEq, reduceEqDiff, reduceLT, reduceLeDiff, reduceAdd, reduceMul, reduceSub, Nat.reduceBEq, Int.reduceToNat, Int.reduceLE, Int.reduceLT, Int.reduceNeg, reduceMod, sid_ne1, sid_ne2, sid_inj, sid_mod, gT, TK.isInt, TK.agg, Array.toList, h1a, r1a, h3a]
    refine ⟨fun ha => by rw [if_pos ha], fun ha => ?_⟩
    rw [if_neg (by rw [ha]; decide)] at hs ⊢
    exact again_of (k + 1) (by refine ⟨?_, ?_, ?_, ⟨by omega, by first | rfl | rw [he, hs]⟩⟩ <;> (first | (simp (maxSteps:=5000000) -dsimp only [gr, reduceEqDiff, reduceLT, reduceAdd, reduceMod, Nat.reduceBEq, sid_mod, sid_ne1, sid_ne2, sid_inj, h1a, r1a, h3a, wrap_nat (show k + 1 < 9 by omega) (by omega)]; first | done | rfl | (simp; done)) | assumption | rfl)) (by first | omega | (simp only; omega) | (dsimp only; omega) | (show _ < _; simp; omega))
  · have : k = 8 := by omega
    subst this; rfl
theorem canR_len {n : Int} {xs : List Int} (h : isCx n xs = true) : (canR n xs).length = xs.length := by
  obtain ⟨m, fs, rfl, hm1, hm6, hxs, hfs, hf, hfl, hnd⟩ := cx_nat h
  have hcan : canR (m : Int) xs = bestL fs (namL m m []) xs := by unfold canR; rw [if_pos h, hfs]; rfl
  rw [hcan]
  subst hxs
  rw [bestL_len hm6 hf hnd _ _ (fun ns hns => namL_good hns) (ofN_length fs), ofN_length]
theorem alB_len {n m : Int} {xs ys : List Int} (h : alB n xs m ys = true) : n = m ∧ xs.length = ys.length := by
  unfold alB at h
  simp only [Bool.and_eq_true, decide_eq_true_eq] at h
  obtain ⟨⟨h1, h2⟩, h3, h4⟩ := h
  exact ⟨h3, by rw [← canR_len h1, ← canR_len h2, h4]⟩
theorem alB_no {n m : Int} {xs ys : List Int} (h : ¬ (n = m ∧ xs.length = ys.length)) : alB n xs m ys = false := by
  cases hb : alB n xs m ys with
  | false => rfl
  | true => exact absurd (alB_len hb) h
theorem c_spec_ExampleOf (n : Int) (xs : List Int) : AC Tryz.prog 16 [.ag [int n, ints xs]] (.im (int (exR n xs))) := by
  refine AC.go (rs := [.tmp 2]) T_ok mixed Tryz.func16 rfl rfl rfl (by kernel_rfl) fun hl => ?_
  simp (maxSteps:=5000000) -dsimp only [↓gp, gq, reduceCtorEq, reduceEqDiff, reduceLT, reduceLeDiff, reduceAdd, reduceMul, reduceSub, Nat.reduceBEq, Int.reduceToNat, Int.reduceLE, Int.reduceLT, Int.reduceNeg, reduceMod, sid_ne1, sid_ne2, sid_inj, sid_mod, gT, TK.isInt, TK.agg, Array.toList]
  refine loop_of (fun (k : Nat) s => s.sl 1 = .ref 1 1 0 ∧ s.rw 1 = ⟨1, .box 27 [int n, ints xs]⟩ ∧ s.sl 3 = int ((k + 1 : Nat) : Int) ∧ (k ≤ 8 ∧ exR n xs = exF n xs (k + 1) (8 - k))) (fun k => 8 - k) (0) (by refine ⟨?_, ?_, ?_, ⟨by omega, rfl⟩⟩ <;> (first | (simp (maxSteps:=5000000) -dsimp only [gr, reduceEqDiff, reduceLT, reduceAdd, reduceMod, Nat.reduceBEq, sid_mod, sid_ne1, sid_ne2, sid_inj]; first | done | rfl | (simp; done)) | assumption | rfl)) ?_
  intro k sa ⟨h1a, r1a, h3a, hIa⟩
  obtain ⟨hk, he⟩ := hIa
  rw [he]
  simp (maxSteps:=5000000) -dsimp only [↓gp, gq, reduceCtorEq, reduceEqDiff, reduceLT, reduceLeDiff, reduceAdd, reduceMul, reduceSub, Nat.reduceBEq, Int.reduceToNat, Int.reduceLE, Int.reduceLT, Int.reduceNeg, reduceMod, sid_ne1, sid_ne2, sid_inj, sid_mod, gT, TK.isInt, TK.agg, Array.toList, h1a, r1a, h3a]
  refine askK_of c_spec_CountExamples ?_
  simp (maxSteps:=5000000) -dsimp only [↓gp, gq, reduceCtorEq, reduceEqDiff, reduceLT, reduceLeDiff, reduceAdd, reduceMul, reduceSub, Nat.reduceBEq, Int.reduceToNat, Int.reduceLE, Int.reduceLT, Int.reduceNeg, reduceMod, sid_ne1, sid_ne2, sid_inj, sid_mod, gT, TK.isInt, TK.agg, Array.toList, h1a, r1a, h3a]
  refine ⟨fun h => askK_of (c_spec_ExampleComplex _) ?_, fun h => ?_⟩
  · have hk8 : k < 8 := by omega
    have e8 : 8 - k = (8 - (k + 1)) + 1 := by omega
    have hs : exF n xs (k + 1) (8 - k) = if alB (exPts ((k + 1 : Nat) : Int)) (facs (exPs ((k + 1 : Nat) : Int))) n xs = true then ((k + 1 : Nat) : Int) else exF n xs (k + 1 + 1) (8 - (k + 1)) := by rw [e8, exF]
    rw [hs]
    simp (maxSteps:=5000000) -dsimp only [↓gp, gq, reduceCtorEq, reduceEqDiff, reduceLT, reduceLeDiff, reduceAdd, reduceMul, reduceSub, Nat.reduceBEq, Int.reduceToNat, Int.reduceLE, Int.reduceLT, Int.reduceNeg, reduceMod, sid_ne1, sid_ne2, sid_inj, sid_mod, gT, TK.isInt, TK.agg, Array.toList, h1a, r1a, h3a]
    refine ⟨fun h1 => ⟨fun h2 => askK_of (c_spec_AreAlike _ n _ xs) ?_, fun h2 => ?_⟩, fun h1 => ?_⟩
    · simp (maxSteps:=5000000) -dsimp only [↓gp, gq, reduceCtorEq, reduceEqDiff, reduceLT, reduceLeDiff, reduceAdd, reduceMul, reduceSub, Nat.reduceBEq, Int.reduceToNat, Int.reduceLE, Int.reduceLT, Int.reduceNeg, reduceMod, sid_ne1, sid_ne2, sid_inj, sid_mod, gT, TK.isInt, TK.agg, Array.toList, h1a, r1a, h3a]
      refine ⟨fun ha => by rw [if_pos ha], fun ha => ?_⟩
      have hn : ¬ alB (exPts ((k + 1 : Nat) : Int)) (facs (exPs ((k + 1 : Nat) : Int))) n xs = true := by rw [ha]; decide
      exact again_of (k + 1) (by refine ⟨?_, ?_, ?_, ⟨by omega, by rw [if_neg hn]⟩⟩ <;> (first | (simp (maxSteps:=5000000) -dsimp only [gr, reduceEqDiff, reduceLT, reduceAdd, reduceMod, Nat.reduceBEq, sid_mod, sid_ne1, sid_ne2, sid_inj, h1a, r1a, h3a, wrap_nat (show k + 1 < 9 by omega) (by omega)]; first | done | rfl | (simp; done)) | assumption | rfl)) (by first | omega | (simp only; omega) | (dsimp only; omega) | (show _ < _; simp; omega))
    · have hn : ¬ alB (exPts ((k + 1 : Nat) : Int)) (facs (exPs ((k + 1 : Nat) : Int))) n xs = true := by
        rw [alB_no fun e => by rw [e.2] at h2; simp at h2]; decide
      exact again_of (k + 1) (by refine ⟨?_, ?_, ?_, ⟨by omega, by rw [if_neg hn]⟩⟩ <;> (first | (simp (maxSteps:=5000000) -dsimp only [gr, reduceEqDiff, reduceLT, reduceAdd, reduceMod, Nat.reduceBEq, sid_mod, sid_ne1, sid_ne2, sid_inj, h1a, r1a, h3a, wrap_nat (show k + 1 < 9 by omega) (by omega)]; first | done | rfl | (simp; done)) | assumption | rfl)) (by first | omega | (simp only; omega) | (dsimp only; omega) | (show _ < _; simp; omega))
    · have hn : ¬ alB (exPts ((k + 1 : Nat) : Int)) (facs (exPs ((k + 1 : Nat) : Int))) n xs = true := by
        rw [alB_no fun e => by rw [e.1] at h1; simp at h1]; decide
      exact again_of (k + 1) (by refine ⟨?_, ?_, ?_, ⟨by omega, by rw [if_neg hn]⟩⟩ <;> (first | (simp (maxSteps:=5000000) -dsimp only [gr, reduceEqDiff, reduceLT, reduceAdd, reduceMod, Nat.reduceBEq, sid_mod, sid_ne1, sid_ne2, sid_inj, h1a, r1a, h3a, wrap_nat (show k + 1 < 9 by omega) (by omega)]; first | done | rfl | (simp; done)) | assumption | rfl)) (by first | omega | (simp only; omega) | (dsimp only; omega) | (show _ < _; simp; omega))
  · have : k = 8 := by omega
    subst this; rfl
theorem c_spec_DrawExampleText (bs : List Int) (hbs : bs.length ≤ 9223372036854775806) : ADr Tryz.prog 8 [.sl false 1 (kL .u8 bs)] (kint fun x => -1 ≤ x ∧ x ≤ 10) := by
  refine AG.go (rs := [.tmp 2]) T_ok mixed Tryz.func8 rfl rfl rfl (by kernel_rfl) fun hl _ s hs hR => ?_
  simp (maxSteps:=5000000) -dsimp only [↓gp, gq, reduceCtorEq, reduceEqDiff, reduceLT, reduceLeDiff, reduceAdd, reduceMul, reduceSub, Nat.reduceBEq, Int.reduceToNat, Int.reduceLE, Int.reduceLT, Int.reduceNeg, reduceMod, sid_ne1, sid_ne2, sid_inj, sid_mod, gT, TK.isInt, TK.agg, Array.toList, hs, hR]
  refine askNewCur_of (c_spec_l1New bs) (.one (.sl _ _ _) .nil) fun h0 => ?_
  simp (maxSteps:=5000000) -dsimp only [↓gp, gq, reduceCtorEq, reduceEqDiff, reduceLT, reduceLeDiff, reduceAdd, reduceMul, reduceSub, Nat.reduceBEq, Int.reduceToNat, Int.reduceLE, Int.reduceLT, Int.reduceNeg, reduceMod, sid_ne1, sid_ne2, sid_inj, sid_mod, gT, TK.isInt, TK.agg, Array.toList, hs, hR]
  refine askCur_of (c_spec_l1Below bs hbs 11 (by decide)) .none (by simp (maxSteps:=5000000) -dsimp only [gr, reduceEqDiff, reduceLT, reduceAdd, reduceMod, Nat.reduceBEq, sid_mod, sid_ne1, sid_ne2, sid_inj, hR] <;> rfl) (GvL.one (gv_cur (by simp (maxSteps:=5000000) -dsimp only [gr, reduceEqDiff, reduceLT, reduceAdd, reduceMod, Nat.reduceBEq, sid_mod, sid_ne1, sid_ne2, sid_inj, hR] <;> rfl)) (by repeat (first | exact GvL.nil | refine GvL.one (GvA.v _) ?_ | refine GvL.one (GvA.sl _ _ _) ?_))) rfl (fun _ h => by cases h) fun rv i1 g1 ⟨x, hrv, hx⟩ => ?_
  subst hrv
  obtain ⟨m, rfl, hm⟩ := bel_nat (n := 11) (by decide) hx
  simp (maxSteps:=5000000) -dsimp only [↓gp, gq, reduceCtorEq, reduceEqDiff, reduceLT, reduceLeDiff, reduceAdd, reduceMul, reduceSub, Nat.reduceBEq, Int.reduceToNat, Int.reduceLE, Int.reduceLT, Int.reduceNeg, reduceMod, sid_ne1, sid_ne2, sid_inj, sid_mod, gT, TK.isInt, TK.agg, Array.toList, hs, hR]
  exact ⟨_, _, ⟨_, rfl, by rw [wrap_id (by omega) (by omega)]; omega⟩, .one (.lf (.im _)), by simp⟩
def exN (k : Int) : List Nat := (exPs k).map fun p => setV p p.size
theorem facs_exN (k : Int) : facs (exPs k) = ofN (exN k) := by simp [facs, exN, ofN]
theorem exN_ok {k : Int} (h : 1 ≤ k ∧ k ≤ 8) : (∀ x ∈ exN k, x < 64) ∧ (exN k).length ≤ 64 ∧ exPts k ≤ 6 := by
  obtain ⟨h1, h8⟩ := h
  have : k = 1 ∨ k = 2 ∨ k = 3 ∨ k = 4 ∨ k = 5 ∨ k = 6 ∨ k = 7 ∨ k = 8 := by omega
  rcases this with rfl | rfl | rfl | rfl | rfl | rfl | rfl | rfl <;> decide +kernel
theorem c_spec_DrawExampleOf (bs : List Int) (hbs : bs.length ≤ 9223372036854775806) : ADr Tryz.prog 11 [.sl false 1 (kL .u8 bs)] (kcx fun _ _ => True) := by
  refine AG.go (rs := [.cell 2 27]) T_ok mixed Tryz.func11 rfl rfl rfl (by kernel_rfl) fun hl _ s hs hR => ?_
  simp (maxSteps:=5000000) -dsimp only [↓gp, gq, reduceCtorEq, reduceEqDiff, reduceLT, reduceLeDiff, reduceAdd, reduceMul, reduceSub, Nat.reduceBEq, Int.reduceToNat, Int.reduceLE, Int.reduceLT, Int.reduceNeg, reduceMod, sid_ne1, sid_ne2, sid_inj, sid_mod, gT, TK.isInt, TK.agg, Array.toList, hs, hR]
  refine askNewCur_of (c_spec_l1New bs) (.one (.sl _ _ _) .nil) fun h0 => ?_
  simp (maxSteps:=5000000) -dsimp only [↓gp, gq, reduceCtorEq, reduceEqDiff, reduceLT, reduceLeDiff, reduceAdd, reduceMul, reduceSub, Nat.reduceBEq, Int.reduceToNat, Int.reduceLE, Int.reduceLT, Int.reduceNeg, reduceMod, sid_ne1, sid_ne2, sid_inj, sid_mod, gT, TK.isInt, TK.agg, Array.toList, hs, hR]
  refine askCur_of (c_spec_l1Below bs hbs 9 (by decide)) .none (by simp (maxSteps:=5000000) -dsimp only [gr, reduceEqDiff, reduceLT, reduceAdd, reduceMod, Nat.reduceBEq, sid_mod, sid_ne1, sid_ne2, sid_inj, hR] <;> rfl) (GvL.one (gv_cur (by simp (maxSteps:=5000000) -dsimp only [gr, reduceEqDiff, reduceLT, reduceAdd, reduceMod, Nat.reduceBEq, sid_mod, sid_ne1, sid_ne2, sid_inj, hR] <;> rfl)) (by repeat (first | exact GvL.nil | refine GvL.one (GvA.v _) ?_ | refine GvL.one (GvA.sl _ _ _) ?_))) rfl (fun _ h => by cases h) fun rv i1 g1 ⟨x, hrv, hx⟩ => ?_
  subst hrv
  simp (maxSteps:=5000000) -dsimp only [↓gp, gq, reduceCtorEq, reduceEqDiff, reduceLT, reduceLeDiff, reduceAdd, reduceMul, reduceSub, Nat.reduceBEq, Int.reduceToNat, Int.reduceLE, Int.reduceLT, Int.reduceNeg, reduceMod, sid_ne1, sid_ne2, sid_inj, sid_mod, gT, TK.isInt, TK.agg, Array.toList, hs, hR]
  refine askK_of (c_spec_ExampleComplex x) ?_
  simp (maxSteps:=5000000) -dsimp only [↓gp, gq, reduceCtorEq, reduceEqDiff, reduceLT, reduceLeDiff, reduceAdd, reduceMul, reduceSub, Nat.reduceBEq, Int.reduceToNat, Int.reduceLE, Int.reduceLT, Int.reduceNeg, reduceMod, sid_ne1, sid_ne2, sid_inj, sid_mod, gT, TK.isInt, TK.agg, Array.toList, hs, hR]
  refine ⟨fun hk => ?_, fun hk => ?_⟩
  · obtain ⟨q1, q2, q3⟩ := exN_ok hk
    refine askCur_of (c_spec_l1Once bs hbs 2 (by decide)) .none (by simp (maxSteps:=5000000) -dsimp only [gr, reduceEqDiff, reduceLT, reduceAdd, reduceMod, Nat.reduceBEq, sid_mod, sid_ne1, sid_ne2, sid_inj, hR] <;> rfl) (GvL.one (gv_cur (by simp (maxSteps:=5000000) -dsimp only [gr, reduceEqDiff, reduceLT, reduceAdd, reduceMod, Nat.reduceBEq, sid_mod, sid_ne1, sid_ne2, sid_inj, hR] <;> rfl)) (by repeat (first | exact GvL.nil | refine GvL.one (GvA.v _) ?_ | refine GvL.one (GvA.sl _ _ _) ?_))) rfl (fun _ h => by cases h) fun rv i2 g2 ⟨b, hrv⟩ => ?_
    subst hrv
    simp (maxSteps:=5000000) -dsimp only [↓gp, gq, reduceCtorEq, reduceEqDiff, reduceLT, reduceLeDiff, reduceAdd, reduceMul, reduceSub, Nat.reduceBEq, Int.reduceToNat, Int.reduceLE, Int.reduceLT, Int.reduceNeg, reduceMod, sid_ne1, sid_ne2, sid_inj, sid_mod, gT, TK.isInt, TK.agg, Array.toList, hs, hR]
    refine ⟨fun hb => ?_, fun hb => ?_⟩
    · refine ⟨by kernel_rfl, askDX_of (c_spec_l9Shuffle bs hbs (exPts x) q3) (plain_int _) (i := i2) (h := g2) (by simp (maxSteps:=5000000) -dsimp only [gr, reduceEqDiff, reduceLT, reduceAdd, reduceMod, Nat.reduceBEq, sid_mod, sid_ne1, sid_ne2, sid_inj, hR] <;> rfl) rfl ?_⟩
      simp (maxSteps:=5000000) -dsimp only [↓gp, gq, reduceCtorEq, reduceEqDiff, reduceLT, reduceLeDiff, reduceAdd, reduceMul, reduceSub, Nat.reduceBEq, Int.reduceToNat, Int.reduceLE, Int.reduceLT, Int.reduceNeg, reduceMod, sid_ne1, sid_ne2, sid_inj, sid_mod, gT, TK.isInt, TK.agg, Array.toList, hs, hR]
      rw [facs_exN]
      refine askK_of (c_spec_l9Complex _ _ _ q1 q2 q3 (shF_good bs i2 g2 _)) ?_
      simp (maxSteps:=5000000) -dsimp only [↓gp, gq, reduceCtorEq, reduceEqDiff, reduceLT, reduceLeDiff, reduceAdd, reduceMul, reduceSub, Nat.reduceBEq, Int.reduceToNat, Int.reduceLE, Int.reduceLT, Int.reduceNeg, reduceMod, sid_ne1, sid_ne2, sid_inj, sid_mod, gT, TK.isInt, TK.agg, Array.toList, hs, hR]
      exact ⟨by kernel_rfl, _, _, ⟨_, _, rfl, trivial⟩, .one (.ag (.cons (.im _) (.cons (.fr (by simp (maxSteps:=5000000) -dsimp only [gr, reduceEqDiff, reduceLT, reduceAdd, reduceMod, Nat.reduceBEq, sid_mod, sid_ne1, sid_ne2, sid_inj] <;> rfl) (by decide)) .nil))), by simp⟩
    · refine askCur_of (c_spec_l3Bent bs hbs) .none (by simp (maxSteps:=5000000) -dsimp only [gr, reduceEqDiff, reduceLT, reduceAdd, reduceMod, Nat.reduceBEq, sid_mod, sid_ne1, sid_ne2, sid_inj, hR] <;> rfl) (GvL.one (gv_cur (by simp (maxSteps:=5000000) -dsimp only [gr, reduceEqDiff, reduceLT, reduceAdd, reduceMod, Nat.reduceBEq, sid_mod, sid_ne1, sid_ne2, sid_inj, hR] <;> rfl)) (by repeat (first | exact GvL.nil | refine GvL.one (GvA.v _) ?_ | refine GvL.one (GvA.sl _ _ _) ?_))) rfl (fun _ h => by cases h) fun rv i3 g3 ⟨n, xs, hrv, hq⟩ => ?_
      subst hrv
      simp (maxSteps:=5000000) -dsimp only [↓gp, gq, reduceCtorEq, reduceEqDiff, reduceLT, reduceLeDiff, reduceAdd, reduceMul, reduceSub, Nat.reduceBEq, Int.reduceToNat, Int.reduceLE, Int.reduceLT, Int.reduceNeg, reduceMod, sid_ne1, sid_ne2, sid_inj, sid_mod, gT, TK.isInt, TK.agg, Array.toList, hs, hR]
      exact ⟨_, _, ⟨n, xs, rfl, trivial⟩, .one (.ag (.cons (.im _) (.cons (.fr (by simp (maxSteps:=5000000) -dsimp only [gr, reduceEqDiff, reduceLT, reduceAdd, reduceMod, Nat.reduceBEq, sid_mod, sid_ne1, sid_ne2, sid_inj] <;> rfl) (by decide)) .nil))), by simp⟩
  · refine askCur_of (c_spec_l3Bent bs hbs) .none (by simp (maxSteps:=5000000) -dsimp only [gr, reduceEqDiff, reduceLT, reduceAdd, reduceMod, Nat.reduceBEq, sid_mod, sid_ne1, sid_ne2, sid_inj, hR] <;> rfl) (GvL.one (gv_cur (by simp (maxSteps:=5000000) -dsimp only [gr, reduceEqDiff, reduceLT, reduceAdd, reduceMod, Nat.reduceBEq, sid_mod, sid_ne1, sid_ne2, sid_inj, hR] <;> rfl)) (by repeat (first | exact GvL.nil | refine GvL.one (GvA.v _) ?_ | refine GvL.one (GvA.sl _ _ _) ?_))) rfl (fun _ h => by cases h) fun rv i3 g3 ⟨n, xs, hrv, hq⟩ => ?_
    subst hrv
    simp (maxSteps:=5000000) -dsimp only [↓gp, gq, reduceCtorEq, reduceEqDiff, reduceLT, reduceLeDiff, reduceAdd, reduceMul, reduceSub, Nat.reduceBEq, Int.reduceToNat, Int.reduceLE, Int.reduceLT, Int.reduceNeg, reduceMod, sid_ne1, sid_ne2, sid_inj, sid_mod, gT, TK.isInt, TK.agg, Array.toList, hs, hR]
    exact ⟨_, _, ⟨n, xs, rfl, trivial⟩, .one (.ag (.cons (.im _) (.cons (.fr (by simp (maxSteps:=5000000) -dsimp only [gr, reduceEqDiff, reduceLT, reduceAdd, reduceMod, Nat.reduceBEq, sid_mod, sid_ne1, sid_ne2, sid_inj] <;> rfl) (by decide)) .nil))), by simp⟩
theorem c_laws_big (bs : List Int) : AC Tryz.prog 7 [.sl false 1 (kL .u8 bs)] (.im (bool (decide (1048576 < (bs.length : Int))))) := by
  refine AC.go (rs := [.tmp 2]) T_ok mixed Tryz.func7 rfl rfl rfl (by kernel_rfl) fun hl => ?_
  simp (maxSteps:=5000000) -dsimp only [↓gp, gq, reduceCtorEq, reduceEqDiff, reduceLT, reduceLeDiff, reduceAdd, reduceMul, reduceSub, Nat.reduceBEq, Int.reduceToNat, Int.reduceLE, Int.reduceLT, Int.reduceNeg, reduceMod, sid_ne1, sid_ne2, sid_inj, sid_mod, gT, TK.isInt, TK.agg, Array.toList]
theorem c_laws_sameInts (xs ys : List Int) : AC Tryz.prog 54 [ints xs, ints ys] (.im (bool (decide (xs = ys)))) := by
  refine AC.go (rs := [.tmp 4]) T_ok mixed Tryz.func54 rfl rfl rfl (by kernel_rfl) fun hl => ?_
  simp only [lens_cons, lens2_iL, lens_nil, and_true] at hl
  simp (maxSteps:=5000000) -dsimp only [↓gp, gq, reduceCtorEq, reduceEqDiff, reduceLT, reduceLeDiff, reduceAdd, reduceMul, reduceSub, Nat.reduceBEq, Int.reduceToNat, Int.reduceLE, Int.reduceLT, Int.reduceNeg, reduceMod, sid_ne1, sid_ne2, sid_inj, sid_mod, gT, TK.isInt, TK.agg, Array.toList]
  refine ⟨fun h => ?_, fun h => ?_⟩
  · intro e
    simp [e] at h
  · have hn : xs.length = ys.length := by simp at h; omega
    refine loop_of (fun (i : Nat) s => s.sl 0 = ints xs ∧ s.sl 1 = ints ys ∧ s.sl 5 = int i ∧ i ≤ xs.length ∧ xs.take i = ys.take i) (fun i => xs.length - i) 0 ⟨by simp (maxSteps:=5000000) -dsimp only [gr, reduceEqDiff, reduceLT, reduceAdd, reduceMod, Nat.reduceBEq, sid_mod, sid_ne1, sid_ne2, sid_inj], by simp (maxSteps:=5000000) -dsimp only [gr, reduceEqDiff, reduceLT, reduceAdd, reduceMod, Nat.reduceBEq, sid_mod, sid_ne1, sid_ne2, sid_inj], by simp (maxSteps:=5000000) -dsimp only [gr, reduceEqDiff, reduceLT, reduceAdd, reduceMod, Nat.reduceBEq, sid_mod, sid_ne1, sid_ne2, sid_inj]; rfl, by simp, by simp⟩ ?_
    intro i s1 ⟨h0, h1, h5, hi, hall⟩
    simp (maxSteps:=5000000) -dsimp only [↓gp, gq, reduceCtorEq, reduceEqDiff, reduceLT, reduceLeDiff, reduceAdd, reduceMul, reduceSub, Nat.reduceBEq, Int.reduceToNat, Int.reduceLE, Int.reduceLT, Int.reduceNeg, reduceMod, sid_ne1, sid_ne2, sid_inj, sid_mod, gT, TK.isInt, TK.agg, Array.toList, h0, h1, h5]
    refine ⟨fun h => ⟨by kernel_rfl, h, h, by omega, by omega, fun ha => ?_, fun ha => ?_⟩, fun h => ?_⟩
    · intro e
      simp [e] at ha
    · refine again_of (i + 1) ⟨by simp (maxSteps:=5000000) -dsimp only [gr, reduceEqDiff, reduceLT, reduceAdd, reduceMod, Nat.reduceBEq, sid_mod, sid_ne1, sid_ne2, sid_inj, h0], by simp (maxSteps:=5000000) -dsimp only [gr, reduceEqDiff, reduceLT, reduceAdd, reduceMod, Nat.reduceBEq, sid_mod, sid_ne1, sid_ne2, sid_inj, h1], by simp (maxSteps:=5000000) -dsimp only [gr, reduceEqDiff, reduceLT, reduceAdd, reduceMod, Nat.reduceBEq, sid_mod, sid_ne1, sid_ne2, sid_inj]; rw [wrap_nat h hl.1], h, ?_⟩ (by omega)
      rw [take_snoc 0 h, take_snoc 0 (show i < ys.length by omega), hall]
      simp at ha
      simpa using ha
    · rw [List.take_of_length_le (by omega), List.take_of_length_le (by omega)] at hall
      exact hall
theorem c_laws_sameComplex (n m : Int) (xs ys : List Int) : AC Tryz.prog 15 [.ag [int n, ints xs], .ag [int m, ints ys]] (.im (bool (decide (n = m ∧ xs = ys)))) := by
  refine AC.go (rs := [.tmp 4]) T_ok mixed Tryz.func15 rfl rfl rfl (by kernel_rfl) fun hl => ?_
  simp (maxSteps:=5000000) -dsimp only [↓gp, gq, reduceCtorEq, reduceEqDiff, reduceLT, reduceLeDiff, reduceAdd, reduceMul, reduceSub, Nat.reduceBEq, Int.reduceToNat, Int.reduceLE, Int.reduceLT, Int.reduceNeg, reduceMod, sid_ne1, sid_ne2, sid_inj, sid_mod, gT, TK.isInt, TK.agg, Array.toList]
  refine ⟨fun h => askK_of (c_laws_sameInts xs ys) ?_, fun h => ?_⟩
  · have h : n = m := by simpa using h
    subst h
    simp (maxSteps:=5000000) -dsimp only [↓gp, gq, reduceCtorEq, reduceEqDiff, reduceLT, reduceLeDiff, reduceAdd, reduceMul, reduceSub, Nat.reduceBEq, Int.reduceToNat, Int.reduceLE, Int.reduceLT, Int.reduceNeg, reduceMod, sid_ne1, sid_ne2, sid_inj, sid_mod, gT, TK.isInt, TK.agg, Array.toList]
  · have h : n ≠ m := by simpa using h
    exact fun e => h e.1
theorem exF_hit (n : Int) (xs : List Int) : ∀ (r k : Nat), exF n xs k r = 0 ∨ ∃ j : Nat, k ≤ j ∧ j < k + r ∧ exF n xs k r = j ∧ alB (exPts j) (facs (exPs j)) n xs = true
  | 0, k => .inl rfl
  | r + 1, k => by
    rw [exF]
    by_cases h : alB (exPts k) (facs (exPs k)) n xs = true
    · rw [if_pos h]; exact .inr ⟨k, by omega, by omega, rfl, h⟩
    · rw [if_neg h]
      rcases exF_hit n xs r (k + 1) with e | ⟨j, h1, h2, h3, h4⟩
      · exact .inl e
      · exact .inr ⟨j, by omega, by omega, h3, h4⟩
theorem exR_hit {n : Int} {xs : List Int} (h : exR n xs ≠ 0) : (1 ≤ exR n xs ∧ exR n xs ≤ 8) ∧ alB (exPts (exR n xs)) (facs (exPs (exR n xs))) n xs = true := by
  rcases exF_hit n xs 8 1 with e | ⟨j, h1, h2, h3, h4⟩
  · exact absurd e h
  · have e : exR n xs = (j : Int) := h3
    rw [e]; exact ⟨by omega, h4⟩
theorem same_self (a : Int) (l : List Int) : decide (a = a ∧ l = l) = true := by simp
theorem c_laws_FnExamples (bs : List Int) : AC Tryz.prog 3 [.sl false 1 (kL .u8 bs)] (.im (bool true)) := by
  refine AC.go (rs := [.tmp 2]) T_ok mixed Tryz.func3 rfl rfl rfl (by kernel_rfl) fun hl => ?_
  simp (maxSteps:=5000000) -dsimp only [↓gp, gq, reduceCtorEq, reduceEqDiff, reduceLT, reduceLeDiff, reduceAdd, reduceMul, reduceSub, Nat.reduceBEq, Int.reduceToNat, Int.reduceLE, Int.reduceLT, Int.reduceNeg, reduceMod, sid_ne1, sid_ne2, sid_inj, sid_mod, gT, TK.isInt, TK.agg, Array.toList]
  refine askK_of (c_laws_big bs) ?_
  simp (maxSteps:=5000000) -dsimp only [↓gp, gq, reduceCtorEq, reduceEqDiff, reduceLT, reduceLeDiff, reduceAdd, reduceMul, reduceSub, Nat.reduceBEq, Int.reduceToNat, Int.reduceLE, Int.reduceLT, Int.reduceNeg, reduceMod, sid_ne1, sid_ne2, sid_inj, sid_mod, gT, TK.isInt, TK.agg, Array.toList]
  intro hbs
  refine askDr_of (c_spec_DrawExampleText bs (by omega)) (.one (.sl _ _ _) .nil) fun rv ⟨k, hrv, hk⟩ => ?_
  subst hrv
  simp (maxSteps:=5000000) -dsimp only [↓gp, gq, reduceCtorEq, reduceEqDiff, reduceLT, reduceLeDiff, reduceAdd, reduceMul, reduceSub, Nat.reduceBEq, Int.reduceToNat, Int.reduceLE, Int.reduceLT, Int.reduceNeg, reduceMod, sid_ne1, sid_ne2, sid_inj, sid_mod, gT, TK.isInt, TK.agg, Array.toList]
  refine askK_of (c_impl_ExampleComplex k) ?_
  simp (maxSteps:=5000000) -dsimp only [↓gp, gq, reduceCtorEq, reduceEqDiff, reduceLT, reduceLeDiff, reduceAdd, reduceMul, reduceSub, Nat.reduceBEq, Int.reduceToNat, Int.reduceLE, Int.reduceLT, Int.reduceNeg, reduceMod, sid_ne1, sid_ne2, sid_inj, sid_mod, gT, TK.isInt, TK.agg, Array.toList]
  refine askK_of (c_spec_ExampleComplex k) ?_
  simp (maxSteps:=5000000) -dsimp only [↓gp, gq, reduceCtorEq, reduceEqDiff, reduceLT, reduceLeDiff, reduceAdd, reduceMul, reduceSub, Nat.reduceBEq, Int.reduceToNat, Int.reduceLE, Int.reduceLT, Int.reduceNeg, reduceMod, sid_ne1, sid_ne2, sid_inj, sid_mod, gT, TK.isInt, TK.agg, Array.toList]
  refine askDr_of (c_spec_DrawExampleOf bs (by omega)) (.one (.sl _ _ _) .nil) fun rv ⟨n, xs, hrv, _⟩ => ?_
  subst hrv
  simp (maxSteps:=5000000) -dsimp only [↓gp, gq, reduceCtorEq, reduceEqDiff, reduceLT, reduceLeDiff, reduceAdd, reduceMul, reduceSub, Nat.reduceBEq, Int.reduceToNat, Int.reduceLE, Int.reduceLT, Int.reduceNeg, reduceMod, sid_ne1, sid_ne2, sid_inj, sid_mod, gT, TK.isInt, TK.agg, Array.toList]
  refine askK_of (c_impl_ExampleOf n xs) ?_
  simp (maxSteps:=5000000) -dsimp only [↓gp, gq, reduceCtorEq, reduceEqDiff, reduceLT, reduceLeDiff, reduceAdd, reduceMul, reduceSub, Nat.reduceBEq, Int.reduceToNat, Int.reduceLE, Int.reduceLT, Int.reduceNeg, reduceMod, sid_ne1, sid_ne2, sid_inj, sid_mod, gT, TK.isInt, TK.agg, Array.toList]
  refine askK_of (c_impl_ExampleText k) ?_
  simp (maxSteps:=5000000) -dsimp only [↓gp, gq, reduceCtorEq, reduceEqDiff, reduceLT, reduceLeDiff, reduceAdd, reduceMul, reduceSub, Nat.reduceBEq, Int.reduceToNat, Int.reduceLE, Int.reduceLT, Int.reduceNeg, reduceMod, sid_ne1, sid_ne2, sid_inj, sid_mod, gT, TK.isInt, TK.agg, Array.toList]
  refine askK_of (c_spec_ExampleText k) ?_
  simp (maxSteps:=5000000) -dsimp only [↓gp, gq, reduceCtorEq, reduceEqDiff, reduceLT, reduceLeDiff, reduceAdd, reduceMul, reduceSub, Nat.reduceBEq, Int.reduceToNat, Int.reduceLE, Int.reduceLT, Int.reduceNeg, reduceMod, sid_ne1, sid_ne2, sid_inj, sid_mod, gT, TK.isInt, TK.agg, Array.toList]
  refine askK_of (c_laws_sameComplex _ _ _ _) ?_
  simp (maxSteps:=5000000) -dsimp only [↓gp, gq, reduceCtorEq, reduceEqDiff, reduceLT, reduceLeDiff, reduceAdd, reduceMul, reduceSub, Nat.reduceBEq, Int.reduceToNat, Int.reduceLE, Int.reduceLT, Int.reduceNeg, reduceMod, sid_ne1, sid_ne2, sid_inj, sid_mod, gT, TK.isInt, TK.agg, Array.toList, same_self, dec_self, dec_self2, bne_self_eq_false, beq_self_eq_true, bool_ne_self, dec_true]
  refine askK_of (c_spec_ExampleOf n xs) ?_
  simp (maxSteps:=5000000) -dsimp only [↓gp, gq, reduceCtorEq, reduceEqDiff, reduceLT, reduceLeDiff, reduceAdd, reduceMul, reduceSub, Nat.reduceBEq, Int.reduceToNat, Int.reduceLE, Int.reduceLT, Int.reduceNeg, reduceMod, sid_ne1, sid_ne2, sid_inj, sid_mod, gT, TK.isInt, TK.agg, Array.toList, and_self]
  refine ⟨fun h1 => ⟨fun h2 => askK_of c_impl_CountExamples ?_, fun h2 => ?_⟩, fun h1 => by simp at h1⟩
  · simp (maxSteps:=5000000) -dsimp only [↓gp, gq, reduceCtorEq, reduceEqDiff, reduceLT, reduceLeDiff, reduceAdd, reduceMul, reduceSub, Nat.reduceBEq, Int.reduceToNat, Int.reduceLE, Int.reduceLT, Int.reduceNeg, reduceMod, sid_ne1, sid_ne2, sid_inj, sid_mod, gT, TK.isInt, TK.agg, Array.toList]
    refine ⟨fun h => ?_, fun _ hne => ?_⟩
    · by_cases h8 : k ≤ 8 <;> simp [h2, h8] at h
    have hit := exR_hit (n := n) (xs := xs) (by simpa using hne)
    refine askK_of (c_impl_ExampleComplex _) ?_
    simp (maxSteps:=5000000) -dsimp only [↓gp, gq, reduceCtorEq, reduceEqDiff, reduceLT, reduceLeDiff, reduceAdd, reduceMul, reduceSub, Nat.reduceBEq, Int.reduceToNat, Int.reduceLE, Int.reduceLT, Int.reduceNeg, reduceMod, sid_ne1, sid_ne2, sid_inj, sid_mod, gT, TK.isInt, TK.agg, Array.toList]
    refine ⟨fun _ => askK_of (c_spec_AreAlike _ _ _ _) ?_, fun h => absurd hit.1 h⟩
    simp (maxSteps:=5000000) -dsimp only [↓gp, gq, reduceCtorEq, reduceEqDiff, reduceLT, reduceLeDiff, reduceAdd, reduceMul, reduceSub, Nat.reduceBEq, Int.reduceToNat, Int.reduceLE, Int.reduceLT, Int.reduceNeg, reduceMod, sid_ne1, sid_ne2, sid_inj, sid_mod, gT, TK.isInt, TK.agg, Array.toList, hit.2]
  · refine ⟨fun h => ?_, fun _ hne => ?_⟩
    · simp [h2] at h
    have hit := exR_hit (n := n) (xs := xs) (by simpa using hne)
    refine askK_of (c_impl_ExampleComplex _) ?_
    simp (maxSteps:=5000000) -dsimp only [↓gp, gq, reduceCtorEq, reduceEqDiff, reduceLT, reduceLeDiff, reduceAdd, reduceMul, reduceSub, Nat.reduceBEq, Int.reduceToNat, Int.reduceLE, Int.reduceLT, Int.reduceNeg, reduceMod, sid_ne1, sid_ne2, sid_inj, sid_mod, gT, TK.isInt, TK.agg, Array.toList]
    refine ⟨fun _ => askK_of (c_spec_AreAlike _ _ _ _) ?_, fun h => absurd hit.1 h⟩
    simp (maxSteps:=5000000) -dsimp only [↓gp, gq, reduceCtorEq, reduceEqDiff, reduceLT, reduceLeDiff, reduceAdd, reduceMul, reduceSub, Nat.reduceBEq, Int.reduceToNat, Int.reduceLE, Int.reduceLT, Int.reduceNeg, reduceMod, sid_ne1, sid_ne2, sid_inj, sid_mod, gT, TK.isInt, TK.agg, Array.toList, hit.2]
end Go.Proofs.YtpnknaaehcljoaaGreat
