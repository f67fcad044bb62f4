/- DERIVED by an AI agent. -/
import Derived.Test.YtlapkhmehcnjeaaQ5
import Derived.Test.YtlapkhmehcnjeaaQ3
import Derived.Test.YtlapkhmehcnjeaaP1
import Derived.Test.YtlapkhmehcnjeaaA11
namespace Go.Proofs.Ytlapkhmehcnjeaa
open Go.Abs
set_option linter.unusedSimpArgs false
set_option linter.unusedVariables false

theorem inF_map {xs : List Int} (hx : okS xs) {w : Nat} (hw : w < 64) (s : Nat) : inF (xs.map fun x => iand .i64 x (w : Int)) s = true ↔ ∃ x ∈ xs, x.toNat &&& w = s := by
  unfold inF
  rw [decide_eq_true_iff, List.mem_map]
  have key : ∀ x ∈ xs, iand .i64 x (w : Int) = ((x.toNat &&& w : Nat) : Int) := fun x h => by
    have := hx x h
    rw [← iand_nat (by omega) (by omega)]
    congr 1; omega
  exact ⟨fun ⟨x, h1, h2⟩ => ⟨x, h1, by rw [key x h1] at h2; omega⟩, fun ⟨x, h1, h2⟩ => ⟨x, h1, by rw [key x h1, h2]⟩⟩
noncomputable def insL (xs : List Int) (w : Nat) : List Int := ofN (extN (inF (xs.map fun x => iand .i64 x (w : Int))) true)
theorem faceB_ins {xs : List Int} (hx : okS xs) {w : Nat} (hw : w < 64) {t : Nat} (ht : t < 64) : faceB (insL xs w) t = partF (faceB xs) w t := by
  unfold insL partF
  rw [faceB_ext]
  refine Bool.eq_iff_iff.2 ⟨fun h => ?_, fun h => ?_⟩
  · obtain ⟨s, hs, h2⟩ := List.any_eq_true.1 h
    simp only [Bool.and_eq_true, beq_iff_eq] at h2
    obtain ⟨x, hx1, hx2⟩ := (inF_map hx hw s).1 h2.1
    have e1 : t &&& s = t := by rw [Nat.and_comm]; exact h2.2
    have e2 : s &&& x.toNat = s := by rw [← hx2, Nat.and_comm, ← Nat.and_assoc, Nat.and_self]
    have e3 : s &&& w = s := by rw [← hx2, Nat.and_assoc, Nat.and_self]
    rw [Bool.and_eq_true]
    refine ⟨faceB_iff.2 ⟨x, hx1, by rw [Nat.and_comm]; exact sub_trans e1 e2⟩, ?_⟩
    rw [beq_iff_eq, Nat.and_comm]; exact sub_trans e1 e3
  · rw [Bool.and_eq_true, beq_iff_eq] at h
    obtain ⟨x, hx1, hx2⟩ := faceB_iff.1 h.1
    have hlt : x.toNat &&& w < 64 := by
      have : x.toNat &&& w ≤ w := Nat.and_le_right
      omega
    refine List.any_eq_true.2 ⟨x.toNat &&& w, List.mem_range.2 hlt, ?_⟩
    rw [Bool.and_eq_true, beq_iff_eq]
    exact ⟨(inF_map hx hw _).2 ⟨x, hx1, rfl⟩, by rw [Nat.and_assoc, h.2, hx2]⟩
theorem ins_cx {n : Int} {xs : List Int} (h : isCx n xs = true) {w : Nat} (hw : w < 64) : isCx n (insL xs w) = true := by
  have hx := cx_ok h
  obtain ⟨h1, h6, hk⟩ := isCx_iff.1 h
  refine isCx_yes ⟨h1, h6, fun k hk2 => ?_⟩
  unfold insL at hk2 ⊢
  rw [ofN_length] at hk2
  have hpw := extN_pw (inF (xs.map fun x => iand .i64 x (w : Int))) true
  have hmem := fun i (hi : i < (extN (inF (xs.map fun x => iand .i64 x (w : Int))) true).length) => mem_extN.1 (getD_mem 0 hi)
  have hin := fun i (hi : i < (extN (inF (xs.map fun x => iand .i64 x (w : Int))) true).length) => (inF_map hx hw _).1 (hmem i hi).1.2
  generalize extN (inF (xs.map fun x => iand .i64 x (w : Int))) true = ys at *
  have hbef : ∀ i j, i < j → j < ys.length → befN (ys.getD i 0) (ys.getD j 0) := fun i j hij hj => by
    have := List.pairwise_iff_getElem.1 hpw i j (by omega) hj hij
    have a : ys.getD i 0 = ys[i]'(by omega) := by simp [List.getD, show i < ys.length by omega]
    have b : ys.getD j 0 = ys[j] := by simp [List.getD, hj]
    rw [a, b]; exact this
  refine ⟨?_, fun h0 => ?_, fun i hi => ?_⟩
  · obtain ⟨x, hx1, hx2⟩ := hin k hk2
    rw [ofN_getD hk2]
    obtain ⟨i, hi, rfl⟩ := mem_getD 0 hx1
    have := (hk i hi).1
    unfold inSet at this ⊢
    rw [decide_eq_true_iff] at this ⊢
    have hle : ys.getD k 0 ≤ (xs.getD i 0).toNat := by rw [← hx2]; exact Nat.and_le_left
    refine ⟨by omega, by omega, by omega, ?_⟩
    omega
  · rw [ofN_getD hk2, ofN_getD (by omega)]
    have hb := hbef (k - 1) k (by omega) hk2
    have := (hmem k hk2).1.1
    have := (hmem (k - 1) (by omega)).1.1
    unfold befS
    unfold befN at hb
    rw [szOf_nat (by omega), szOf_nat (by omega)]
    simp only [Bool.and_eq_true, decide_eq_true_iff]
    refine ⟨by omega, by omega, ?_⟩
    split
    · rw [decide_eq_true_iff]; omega
    · rw [decide_eq_true_iff]; omega
  · have hlti := (hmem i (by omega)).1.1
    have hltk := (hmem k hk2).1
    rw [ofN_getD hk2, ofN_getD (by omega), iand_nat (by omega) (by omega)]
    intro e
    have := extB_iff'.1 (hmem i (by omega)).2 (ys.getD k 0) hltk.1 hltk.2 (by omega)
    have hb := hbef i k hi hk2
    rw [this] at hb
    exact befN_irrefl hb
theorem cx_len {n : Int} {xs : List Int} (h : isCx n xs = true) : xs.length ≤ 64 := by
  have hn := cx_nodup (isCx_iff.1 h)
  have hx := cx_ok h
  have h2 : (xs.map Int.toNat).Nodup := by
    refine List.Pairwise.map _ (fun a b => ?_) (List.Pairwise.imp_of_mem (S := fun a b => 0 ≤ a ∧ 0 ≤ b ∧ a ≠ b) (fun ha hb hab => ⟨(hx _ ha).1, (hx _ hb).1, hab⟩) hn)
    intro ⟨q1, q2, q3⟩ e
    omega
  refine Classical.byContradiction fun hc => ?_
  have := (perm_of_sub (m := List.range 64) h2 (fun x hx' => ?_) (by simp; omega)).length_eq
  · simp at this; omega
  · obtain ⟨y, hy, rfl⟩ := List.mem_map.1 hx'
    have := hx y hy
    exact List.mem_range.2 (by omega)
theorem facF_ins {n : Int} {xs : List Int} (h : isCx n xs = true) {w : Nat} (hw : w < 64) (t : Nat) (ht : t < 64) : facF n (insL xs w) t = partF (faceB xs) w t := by
  unfold facF
  rw [ins_cx h hw, faceB_ins (cx_ok h) hw ht]; rfl
theorem hol_ins {n : Int} {xs : List Int} (h : isCx n xs = true) {w : Nat} (hw : w < 64) {p : Int} (hp : isP p = true) : holR (facF n (insL xs w)) p = holF (partF (faceB xs) w) p := by
  unfold holR
  rw [if_pos hp]
  exact holF_congr p fun s hs => facF_ins h hw s hs
end Go.Proofs.Ytlapkhmehcnjeaa

namespace Go.Proofs.Ytlapkhmehcnjeaa
open Go.Abs
set_option linter.unusedSimpArgs false
set_option linter.unusedVariables false

noncomputable def betR (n : Int) (xs : List Int) (p : Int) : Mat := if hasF n xs = true ∧ isP p = true then betT (faceB xs) p n.toNat else []
theorem betR_no {n : Int} {xs : List Int} {p : Int} (h : ¬ (hasF n xs = true ∧ isP p = true)) : betR n xs p = [] := if_neg h
theorem rangeD {n i : Nat} (h : i < n) : (List.range n).getD i 0 = i := by simp [List.getD, h]
theorem repl_snoc {α : Type} (n : Nat) (a : α) : List.replicate n a ++ [a] = List.replicate (n + 1) a := by rw [List.replicate_succ']
theorem c_spec_BettiTable (n : Int) (xs : List Int) (p : Int) : AC Try.prog 38 [.ag [int n, ints xs], int p] (.tb 22 3 ((betR n xs p).map iL)) := by
  refine AC.go (rs := [.tmp 4]) T_ok mixed Try.func38 rfl rfl rfl (by kernel_rfl) fun hl => ?_
  simp only [lens_cons, lens_nil, and_true, lens2_ag2, lens1_v, lens1_iL, true_and] at hl
  simp (maxSteps := 5000000) -dsimp only [↓gp, gq, reduceCtorEq, Nat.reduceEqDiff, Nat.reduceLT, Nat.reduceLeDiff, Nat.reduceAdd, Nat.reduceMul, Nat.reduceSub, Nat.reduceBEq, Int.reduceToNat, Int.reduceLE, Int.reduceLT, Int.reduceNeg, Nat.reduceMod, sid_ne1, sid_ne2, sid_inj, sid_mod, gT, TK.isInt, TK.agg, Array.toList]
  refine askK_of (c_spec_DimOf n xs) ?_
  have hdt := dimR_test n xs
  simp (maxSteps := 5000000) -dsimp only [↓gp, gq, reduceCtorEq, Nat.reduceEqDiff, Nat.reduceLT, Nat.reduceLeDiff, Nat.reduceAdd, Nat.reduceMul, Nat.reduceSub, Nat.reduceBEq, Int.reduceToNat, Int.reduceLE, Int.reduceLT, Int.reduceNeg, Nat.reduceMod, sid_ne1, sid_ne2, sid_inj, sid_mod, gT, TK.isInt, TK.agg, Array.toList, hdt]
  refine ⟨fun hh => askK_of (c_spec_IsFieldPrime p) ?_, fun hh => ?_⟩
  · have hh : hasF n xs = true := by simpa using hh
    simp (maxSteps := 5000000) -dsimp only [↓gp, gq, reduceCtorEq, Nat.reduceEqDiff, Nat.reduceLT, Nat.reduceLeDiff, Nat.reduceAdd, Nat.reduceMul, Nat.reduceSub, Nat.reduceBEq, Int.reduceToNat, Int.reduceLE, Int.reduceLT, Int.reduceNeg, Nat.reduceMod, sid_ne1, sid_ne2, sid_inj, sid_mod, gT, TK.isInt, TK.agg, Array.toList]
    refine ⟨fun hp => ?_, fun hp => ?_⟩
    · rw [betR_no (fun h => by rw [h.2] at hp; cases hp)]
      exact out2_tb0 (by simp (maxSteps := 5000000) -dsimp only [gr, Nat.reduceEqDiff, Nat.reduceLT, Nat.reduceAdd, Nat.reduceMod, Nat.reduceBEq, sid_mod, sid_ne1, sid_ne2, sid_inj]) (by decide)
    · have hp : isP p = true := by simpa using hp
      have hcx := (hasF_iff.1 hh).1
      obtain ⟨h1, h6, _⟩ := isCx_iff.1 hcx
      have hb : betR n xs p = betT (faceB xs) p n.toNat := if_pos ⟨hh, hp⟩
      rw [hb]
      have hxo := cx_ok hcx
      have hxl := cx_len hcx
      obtain ⟨m, rfl⟩ : ∃ m : Nat, n = m := ⟨n.toNat, by omega⟩
      rw [Int.toNat_natCast]
      have h64 := two_pow_le (m := m) (by omega)
      have hsh : ishl .i64 1 (m : Int) = ((2 ^ m : Nat) : Int) := ishl_small (by omega)
      have hun : IntKind.u64.wrap (m : Int) = (m : Int) := uwrap_id (by omega)
      have hm1 : IntKind.i64.wrap ((m : Int) + 1) = ((m + 1 : Nat) : Int) := by rw [wrap_id (by omega) (by omega)]; rfl
      refine loop_gin (k := 11) (v := 1) (e := 22) (e2 := 3) (by simp (maxSteps := 5000000) -dsimp only [gr, Nat.reduceEqDiff, Nat.reduceLT, Nat.reduceAdd, Nat.reduceMod, Nat.reduceBEq, sid_mod, sid_ne1, sid_ne2, sid_inj]) (fun j => by simp (maxSteps := 5000000) -dsimp only [gr, Nat.reduceEqDiff, Nat.reduceLT, Nat.reduceAdd, Nat.reduceMod, Nat.reduceBEq, sid_mod, sid_ne1, sid_ne2, sid_inj]) (fun (i : Nat) s => s.sl 1 = int p ∧ s.sl 2 = .ref 2 1 0 ∧ s.rw 2 = ⟨1, .box 24 [int (m : Nat), ints xs]⟩ ∧ s.sl 5 = .own 11 (i + 1) ∧ s.sl 6 = int i ∧ (i ≤ m + 1 ∧ TabG s.rw 11 (i + 1) 22 3 i (List.replicate i (List.replicate (m + 1) 0)))) (fun i => m + 1 - i) (0) (fun sX htX hslX hoX => (by refine ⟨?_, ?_, ?_, ?_, ?_, ⟨by omega, htX⟩⟩ <;> (first | (simp (maxSteps := 5000000) -dsimp only [gr, Nat.reduceEqDiff, Nat.reduceLT, Nat.reduceAdd, Nat.reduceMod, Nat.reduceBEq, sid_mod, sid_ne1, sid_ne2, sid_inj, hslX, hoX]; first | done | rfl | (simp; done)) | assumption | rfl))) ?_
      intro i sa ⟨h1a, h2a, r2a, h5a, h6a, hIa⟩
      obtain ⟨hi, ht⟩ := hIa
      simp (maxSteps := 5000000) -dsimp only [↓gp, gq, reduceCtorEq, Nat.reduceEqDiff, Nat.reduceLT, Nat.reduceLeDiff, Nat.reduceAdd, Nat.reduceMul, Nat.reduceSub, Nat.reduceBEq, Int.reduceToNat, Int.reduceLE, Int.reduceLT, Int.reduceNeg, Nat.reduceMod, sid_ne1, sid_ne2, sid_inj, sid_mod, gT, TK.isInt, TK.agg, Array.toList, h1a, h2a, r2a, h5a, h6a, hm1, Int.toNat_natCast]
      refine ⟨fun h => ⟨by omega, by omega, ?_⟩, fun h => ?_⟩
      · refine orB_r ?_
        simp (maxSteps := 5000000) -dsimp only [↓gp, gq, reduceCtorEq, Nat.reduceEqDiff, Nat.reduceLT, Nat.reduceLeDiff, Nat.reduceAdd, Nat.reduceMul, Nat.reduceSub, Nat.reduceBEq, Int.reduceToNat, Int.reduceLE, Int.reduceLT, Int.reduceNeg, Nat.reduceMod, sid_ne1, sid_ne2, sid_inj, sid_mod, gT, TK.isInt, TK.agg, Array.toList, h1a, h2a, r2a, h5a, h6a, ht.top]
        refine ⟨by omega, ?_⟩
        exact again_grow0 (k := 11) (v := i + 1 + 1) (e := 22) (e2 := 3) (n := i) (d := 31) (vd := (sa.rw 31).ver + 1) (M := List.replicate i (List.replicate (m + 1) 0)) (r := List.replicate (m + 1) 0) (by simp (maxSteps := 5000000) -dsimp only [gr, Nat.reduceEqDiff, Nat.reduceLT, Nat.reduceAdd, Nat.reduceMod, Nat.reduceBEq, sid_mod, sid_ne1, sid_ne2, sid_inj, ht.top]) (by simp) (fun j hj => by simp (maxSteps := 5000000) -dsimp only [gr, Nat.reduceEqDiff, Nat.reduceLT, Nat.reduceAdd, Nat.reduceMod, Nat.reduceBEq, sid_mod, sid_ne1, sid_ne2, sid_inj, ht.row j hj]) (fun j hj => by simp (maxSteps := 5000000) -dsimp only [gr, Nat.reduceEqDiff, Nat.reduceLT, Nat.reduceAdd, Nat.reduceMod, Nat.reduceBEq, sid_mod, sid_ne1, sid_ne2, sid_inj, ht.rest j hj]) (by simp (maxSteps := 5000000) -dsimp only [gr, Nat.reduceEqDiff, Nat.reduceLT, Nat.reduceAdd, Nat.reduceMod, Nat.reduceBEq, sid_mod, sid_ne1, sid_ne2, sid_inj, hm1]) (by decide) (by decide) (i + 1) (fun sX htX hslX hoX => (by refine ⟨?_, ?_, ?_, ?_, ?_, ⟨by omega, (repl_snoc i _ ▸ htX : TabG _ _ _ _ _ _ _)⟩⟩ <;> (first | (simp (maxSteps := 5000000) -dsimp only [gr, Nat.reduceEqDiff, Nat.reduceLT, Nat.reduceAdd, Nat.reduceMod, Nat.reduceBEq, sid_mod, sid_ne1, sid_ne2, sid_inj, hslX, hoX, h1a, h2a, r2a, h5a, h6a, h1a, h2a, r2a, h5a, h6a, wrap_nat (show i < m + 1 by omega) (by omega)]; first | done | rfl | (simp; done)) | assumption | rfl))) (by first | omega | (simp only; omega) | (dsimp only; omega) | (show _ < _; simp; omega))
      · have : i = m + 1 := by omega
        subst this
        have htI := ht.done
        refine loop_of (fun (w : Nat) s => s.sl 1 = int p ∧ s.sl 2 = .ref 2 1 0 ∧ s.rw 2 = ⟨1, .box 24 [int (m : Nat), ints xs]⟩ ∧ s.sl 5 = .own 11 (m + 1 + 1) ∧ s.sl 7 = int w ∧ (w ≤ 2 ^ m ∧ TabI s.rw 11 (m + 1 + 1) 22 3 (List.range (m + 1)) (betP (faceB xs) p m w))) (fun w => 2 ^ m - w) (0) (by refine ⟨?_, ?_, ?_, ?_, ?_, ⟨Nat.zero_le _, htI.same (by simp (maxSteps := 5000000) -dsimp only [gr, Nat.reduceEqDiff, Nat.reduceLT, Nat.reduceAdd, Nat.reduceMod, Nat.reduceBEq, sid_mod, sid_ne1, sid_ne2, sid_inj]) (fun x => by simp (maxSteps := 5000000) -dsimp only [gr, Nat.reduceEqDiff, Nat.reduceLT, Nat.reduceAdd, Nat.reduceMod, Nat.reduceBEq, sid_mod, sid_ne1, sid_ne2, sid_inj])⟩⟩ <;> (first | (simp (maxSteps := 5000000) -dsimp only [gr, Nat.reduceEqDiff, Nat.reduceLT, Nat.reduceAdd, Nat.reduceMod, Nat.reduceBEq, sid_mod, sid_ne1, sid_ne2, sid_inj, h1a, h2a, r2a, h5a, h6a]; first | done | rfl | (simp; done)) | assumption | rfl)) ?_
        intro w sb ⟨h1b, h2b, r2b, h5b, h7b, hIb⟩
        obtain ⟨hw, hb2⟩ := hIb
        simp (maxSteps := 5000000) -dsimp only [↓gp, gq, reduceCtorEq, Nat.reduceEqDiff, Nat.reduceLT, Nat.reduceLeDiff, Nat.reduceAdd, Nat.reduceMul, Nat.reduceSub, Nat.reduceBEq, Int.reduceToNat, Int.reduceLE, Int.reduceLT, Int.reduceNeg, Nat.reduceMod, sid_ne1, sid_ne2, sid_inj, sid_mod, gT, TK.isInt, TK.agg, Array.toList, h1b, h2b, r2b, h5b, h7b, hsh, hun]
        refine ⟨fun h2 => askK_of (c_spec_l2Size w (by omega)) ?_, fun h2 => ?_⟩
        · simp (maxSteps := 5000000) -dsimp only [↓gp, gq, reduceCtorEq, Nat.reduceEqDiff, Nat.reduceLT, Nat.reduceLeDiff, Nat.reduceAdd, Nat.reduceMul, Nat.reduceSub, Nat.reduceBEq, Int.reduceToNat, Int.reduceLE, Int.reduceLT, Int.reduceNeg, Nat.reduceMod, sid_ne1, sid_ne2, sid_inj, sid_mod, gT, TK.isInt, TK.agg, Array.toList, h1b, h2b, r2b, h5b, h7b, hsh, hun]
          refine askK_of (c_spec_l5Inside _ xs w (by omega) hxo (by omega)) ?_
          simp (maxSteps := 5000000) -dsimp only [↓gp, gq, reduceCtorEq, Nat.reduceEqDiff, Nat.reduceLT, Nat.reduceLeDiff, Nat.reduceAdd, Nat.reduceMul, Nat.reduceSub, Nat.reduceBEq, Int.reduceToNat, Int.reduceLE, Int.reduceLT, Int.reduceNeg, Nat.reduceMod, sid_ne1, sid_ne2, sid_inj, sid_mod, gT, TK.isInt, TK.agg, Array.toList, h1b, h2b, r2b, h5b, h7b, hsh, hun]
          refine askK_of (c_spec_HolesMod _ _ p) ?_
          have hins := hol_ins hcx (w := w) (by omega) hp
          unfold insL at hins
          rw [hins]
          have hpn := pop_le_n (n := m) (by omega) h2
          have hsm := hol_small (partF (faceB xs) w) p
          have hdl := dimN_le (partF (faceB xs) w)
          have hhl := holF_length (partF (faceB xs) w) p
          generalize hhs : holF (partF (faceB xs) w) p = hs at *
          have hsq := fun k => addH_sq (j := popN w) (betP_sq (faceB xs) p m w) hsm k
          simp (maxSteps := 5000000) -dsimp only [↓gp, gq, reduceCtorEq, Nat.reduceEqDiff, Nat.reduceLT, Nat.reduceLeDiff, Nat.reduceAdd, Nat.reduceMul, Nat.reduceSub, Nat.reduceBEq, Int.reduceToNat, Int.reduceLE, Int.reduceLT, Int.reduceNeg, Nat.reduceMod, sid_ne1, sid_ne2, sid_inj, sid_mod, gT, TK.isInt, TK.agg, Array.toList, h1b, h2b, r2b, h5b, h7b, hsh, hun]
          refine loop_of (fun (zc : Nat × Nat) s => match zc with | (k, u) => s.sl 1 = int p ∧ s.sl 2 = .ref 2 1 0 ∧ s.rw 2 = ⟨1, .box 24 [int (m : Nat), ints xs]⟩ ∧ s.sl 5 = .own 11 (m + 1 + 1) ∧ s.sl 7 = int w ∧ s.sl 8 = int (popN w : Nat) ∧ s.sl 9 = .own 48 u ∧ s.rw 48 = ⟨u, .sli 3 1 false (iL hs)⟩ ∧ s.sl 10 = int k ∧ (k ≤ hs.length ∧ TabI s.rw 11 (m + 1 + 1) 22 3 (List.range (m + 1)) (addH (betP (faceB xs) p m w) (popN w) hs k))) (fun (k, u) => hs.length - k) ((0, (sb.rw 48).ver + 1)) (by refine ⟨?_, ?_, ?_, ?_, ?_, ?_, ?_, ?_, ?_, ⟨by omega, hb2.same (by simp (maxSteps := 5000000) -dsimp only [gr, Nat.reduceEqDiff, Nat.reduceLT, Nat.reduceAdd, Nat.reduceMod, Nat.reduceBEq, sid_mod, sid_ne1, sid_ne2, sid_inj]) (fun x => by simp (maxSteps := 5000000) -dsimp only [gr, Nat.reduceEqDiff, Nat.reduceLT, Nat.reduceAdd, Nat.reduceMod, Nat.reduceBEq, sid_mod, sid_ne1, sid_ne2, sid_inj])⟩⟩ <;> (first | (simp (maxSteps := 5000000) -dsimp only [gr, Nat.reduceEqDiff, Nat.reduceLT, Nat.reduceAdd, Nat.reduceMod, Nat.reduceBEq, sid_mod, sid_ne1, sid_ne2, sid_inj, h1b, h2b, r2b, h5b, h7b]; first | done | rfl | (simp; done)) | assumption | rfl)) ?_
          intro (k, u) sc ⟨h1c, h2c, r2c, h5c, h7c, h8c, h9c, r48c, h10c, hIc⟩
          obtain ⟨hk, hb3⟩ := hIc
          have hend : (k = hs.length ∨ popN w < k) → addH (betP (faceB xs) p m w) (popN w) hs k = betP (faceB xs) p m (w + 1) := fun h => by
            have e0 : betP (faceB xs) p m (w + 1) = addH (betP (faceB xs) p m w) (popN w) (holF (partF (faceB xs) w) p) (dimN (partF (faceB xs) w)) := rfl
            rw [e0, ← hhl, hhs]
            rcases h with h | h
            · rw [h]
            · have := addH_stop (M := betP (faceB xs) p m w) (hs := hs) h (hs.length - k)
              rw [show k + (hs.length - k) = hs.length by omega] at this
              exact this.symm
          by_cases h3 : k < hs.length
          · by_cases h4 : k ≤ popN w
            · have hsq := hsq k
              have hs1 := hsq.small (popN w - k) (popN w)
              have hs2 := hsm k
              have hml := hsq.len
              have hrl := hsq.row (popN w - k) (by omega)
              have hadd : addH (betP (faceB xs) p m w) (popN w) hs (k + 1) = addAt (addH (betP (faceB xs) p m w) (popN w) hs k) (popN w - k) (popN w) (hs.getD k 0) := by rw [addH, if_pos h4]
              generalize addH (betP (faceB xs) p m w) (popN w) hs k = M at *
              have e1 : (List.range (m + 1)).getD (popN w - k) 0 = popN w - k := rangeD (by omega)
              have hrow := hb3.row (i := popN w - k) (by omega)
              rw [e1] at hrow
              have hw1 : IntKind.i64.wrap ((popN w : Int) - (k : Int)) = ((popN w - k : Nat) : Int) := by rw [wrap_id (by omega) (by omega)]; omega
              have hw2 : IntKind.i64.wrap ((M.getD (popN w - k) []).getD (popN w) 0 + hs.getD k 0) = (M.getD (popN w - k) []).getD (popN w) 0 + hs.getD k 0 := wrap_id (by omega) (by omega)
              simp (maxSteps := 5000000) -dsimp only [↓gp, gq, reduceCtorEq, Nat.reduceEqDiff, Nat.reduceLT, Nat.reduceLeDiff, Nat.reduceAdd, Nat.reduceMul, Nat.reduceSub, Nat.reduceBEq, Int.reduceToNat, Int.reduceLE, Int.reduceLT, Int.reduceNeg, Nat.reduceMod, sid_ne1, sid_ne2, sid_inj, sid_mod, gT, TK.isInt, TK.agg, Array.toList, h1c, h2c, r2c, h5c, h7c, h8c, h9c, r48c, h10c, hw1, hb3.top, ld_cellsT, e1, hrow, hrl, cellsT_length, List.length_range, hw2]
              refine ⟨fun _ => ⟨fun _ => ⟨by kernel_rfl, by omega, by omega, by omega, by omega, by omega, by omega, h3, h3, by omega, by omega, by kernel_rfl, ?_⟩, fun h => absurd h4 h⟩, fun h => absurd h3 h⟩
              exact again_of ((k + 1, u)) (by refine ⟨?_, ?_, ?_, ?_, ?_, ?_, ?_, ?_, ?_, ⟨by dsimp only; omega, by
                dsimp only
                rw [hadd]
                exact hb3.set (i := popN w - k) (by omega) (by simp (maxSteps := 5000000) -dsimp only [gr, Nat.reduceEqDiff, Nat.reduceLT, Nat.reduceAdd, Nat.reduceMod, Nat.reduceBEq, sid_mod, sid_ne1, sid_ne2, sid_inj]) (by simp (maxSteps := 5000000) -dsimp only [gr, Nat.reduceEqDiff, Nat.reduceLT, Nat.reduceAdd, Nat.reduceMod, Nat.reduceBEq, sid_mod, sid_ne1, sid_ne2, sid_inj, e1, h1c, h2c, r2c, h5c, h7c, h8c, h9c, r48c, h10c, hb3.top, hrow]) (fun x hx => by simp (maxSteps := 5000000) -dsimp only [gr, Nat.reduceEqDiff, Nat.reduceLT, Nat.reduceAdd, Nat.reduceMod, Nat.reduceBEq, sid_mod, sid_ne1, sid_ne2, sid_inj, e1 ▸ hx])⟩⟩ <;> (first | (simp (maxSteps := 5000000) -dsimp only [gr, Nat.reduceEqDiff, Nat.reduceLT, Nat.reduceAdd, Nat.reduceMod, Nat.reduceBEq, sid_mod, sid_ne1, sid_ne2, sid_inj, h1c, h2c, r2c, h5c, h7c, h8c, h9c, r48c, h10c, wrap_nat h3 (by omega)]; first | done | rfl | (simp; done)) | assumption | rfl)) (by first | omega | (simp only; omega) | (dsimp only; omega) | (show _ < _; simp; omega))
            · have e := hend (.inr (by omega))
              rw [e] at hb3
              simp (maxSteps := 5000000) -dsimp only [↓gp, gq, reduceCtorEq, Nat.reduceEqDiff, Nat.reduceLT, Nat.reduceLeDiff, Nat.reduceAdd, Nat.reduceMul, Nat.reduceSub, Nat.reduceBEq, Int.reduceToNat, Int.reduceLE, Int.reduceLT, Int.reduceNeg, Nat.reduceMod, sid_ne1, sid_ne2, sid_inj, sid_mod, gT, TK.isInt, TK.agg, Array.toList, h1c, h2c, r2c, h5c, h7c, h8c, h9c, r48c, h10c]
              refine ⟨fun _ => ⟨fun h => absurd h h4, fun _ => ?_⟩, fun h => absurd h3 h⟩
              exact again_of (w + 1) (by refine ⟨?_, ?_, ?_, ?_, ?_, ⟨by omega, hb3.same (by simp (maxSteps := 5000000) -dsimp only [gr, Nat.reduceEqDiff, Nat.reduceLT, Nat.reduceAdd, Nat.reduceMod, Nat.reduceBEq, sid_mod, sid_ne1, sid_ne2, sid_inj]) (fun x => by simp (maxSteps := 5000000) -dsimp only [gr, Nat.reduceEqDiff, Nat.reduceLT, Nat.reduceAdd, Nat.reduceMod, Nat.reduceBEq, sid_mod, sid_ne1, sid_ne2, sid_inj])⟩⟩ <;> (first | (simp (maxSteps := 5000000) -dsimp only [gr, Nat.reduceEqDiff, Nat.reduceLT, Nat.reduceAdd, Nat.reduceMod, Nat.reduceBEq, sid_mod, sid_ne1, sid_ne2, sid_inj, h1b, h2b, r2b, h5b, h7b, h1c, h2c, r2c, h5c, h7c, h8c, h9c, r48c, h10c, wrap_nat h2 (by omega)]; first | done | rfl | (simp; done)) | assumption | rfl)) (by first | omega | (simp only; omega) | (dsimp only; omega) | (show _ < _; simp; omega))
          · have e := hend (.inl (by omega))
            rw [e] at hb3
            simp (maxSteps := 5000000) -dsimp only [↓gp, gq, reduceCtorEq, Nat.reduceEqDiff, Nat.reduceLT, Nat.reduceLeDiff, Nat.reduceAdd, Nat.reduceMul, Nat.reduceSub, Nat.reduceBEq, Int.reduceToNat, Int.reduceLE, Int.reduceLT, Int.reduceNeg, Nat.reduceMod, sid_ne1, sid_ne2, sid_inj, sid_mod, gT, TK.isInt, TK.agg, Array.toList, h1c, h2c, r2c, h5c, h7c, h8c, h9c, r48c, h10c]
            refine ⟨fun h => absurd h h3, fun _ => ?_⟩
            exact again_of (w + 1) (by refine ⟨?_, ?_, ?_, ?_, ?_, ⟨by omega, hb3.same (by simp (maxSteps := 5000000) -dsimp only [gr, Nat.reduceEqDiff, Nat.reduceLT, Nat.reduceAdd, Nat.reduceMod, Nat.reduceBEq, sid_mod, sid_ne1, sid_ne2, sid_inj]) (fun x => by simp (maxSteps := 5000000) -dsimp only [gr, Nat.reduceEqDiff, Nat.reduceLT, Nat.reduceAdd, Nat.reduceMod, Nat.reduceBEq, sid_mod, sid_ne1, sid_ne2, sid_inj])⟩⟩ <;> (first | (simp (maxSteps := 5000000) -dsimp only [gr, Nat.reduceEqDiff, Nat.reduceLT, Nat.reduceAdd, Nat.reduceMod, Nat.reduceBEq, sid_mod, sid_ne1, sid_ne2, sid_inj, h1b, h2b, r2b, h5b, h7b, h1c, h2c, r2c, h5c, h7c, h8c, h9c, r48c, h10c, wrap_nat h2 (by omega)]; first | done | rfl | (simp; done)) | assumption | rfl)) (by first | omega | (simp only; omega) | (dsimp only; omega) | (show _ < _; simp; omega))
        · have : w = 2 ^ m := by omega
          subst this
          exact out2_tabI hb2 (by decide) (fun j hj => by have := List.mem_range.1 hj; omega)
  · have hh : hasF n xs = false := by simpa using hh
    rw [betR_no (fun h => by rw [h.1] at hh; cases hh)]
    exact out2_tb0 (by simp (maxSteps := 5000000) -dsimp only [gr, Nat.reduceEqDiff, Nat.reduceLT, Nat.reduceAdd, Nat.reduceMod, Nat.reduceBEq, sid_mod, sid_ne1, sid_ne2, sid_inj]) (by decide)
end Go.Proofs.Ytlapkhmehcnjeaa

namespace Go.Proofs.Ytlapkhmehcnjeaa
open Go.Abs
set_option linter.unusedSimpArgs false
set_option linter.unusedVariables false

theorem c_impl_IsComplex (n : Int) (xs : List Int) : AC Try.prog 61 [.ag [int n, ints xs]] (.im (bool (isCx n xs))) := by
  refine AC.go (rs := [.tmp 2]) T_ok mixed Try.func61 rfl rfl rfl (by kernel_rfl) fun hl => ?_
  simp (maxSteps := 5000000) -dsimp only [↓gp, gq, reduceCtorEq, Nat.reduceEqDiff, Nat.reduceLT, Nat.reduceLeDiff, Nat.reduceAdd, Nat.reduceMul, Nat.reduceSub, Nat.reduceBEq, Int.reduceToNat, Int.reduceLE, Int.reduceLT, Int.reduceNeg, Nat.reduceMod, sid_ne1, sid_ne2, sid_inj, sid_mod, gT, TK.isInt, TK.agg, Array.toList]
  refine askK_of (c_impl_isAntichain n xs) ?_
  simp (maxSteps := 5000000) -dsimp only [↓gp, gq, reduceCtorEq, Nat.reduceEqDiff, Nat.reduceLT, Nat.reduceLeDiff, Nat.reduceAdd, Nat.reduceMul, Nat.reduceSub, Nat.reduceBEq, Int.reduceToNat, Int.reduceLE, Int.reduceLT, Int.reduceNeg, Nat.reduceMod, sid_ne1, sid_ne2, sid_inj, sid_mod, gT, TK.isInt, TK.agg, Array.toList]
theorem u8_eq {a b : Nat} : ((a : Int) == (b : Int)) = decide (a = b) := by
  rw [Bool.eq_iff_iff, beq_iff_eq, decide_eq_true_eq]; omega
theorem c_impl_SplitByte (t : ByteArray) (b : Nat) (ht : t.size ≤ 1000) : AC Try.prog 117 [str t, .v (.int .u8 b)] (.fr 9 1 (sL (splitB t b))) := by
  refine AC.go (rs := [.tmp 4]) T_ok mixed Try.func117 rfl rfl rfl (by kernel_rfl) fun hl => ?_
  simp (maxSteps := 5000000) -dsimp only [↓gp, gq, reduceCtorEq, Nat.reduceEqDiff, Nat.reduceLT, Nat.reduceLeDiff, Nat.reduceAdd, Nat.reduceMul, Nat.reduceSub, Nat.reduceBEq, Int.reduceToNat, Int.reduceLE, Int.reduceLT, Int.reduceNeg, Nat.reduceMod, sid_ne1, sid_ne2, sid_inj, sid_mod, gT, TK.isInt, TK.agg, Array.toList]
  refine loop_of (fun (za : Nat × Nat) s => match za with | (i, v) => s.sl 0 = str t ∧ s.sl 1 = .v (.int .u8 b) ∧ s.sl 5 = .own 5 v ∧ s.rw 5 = ⟨v, .sli 9 1 false (sL (spSt t b i).1)⟩ ∧ s.sl 6 = int (spSt t b i).2 ∧ s.sl 7 = int i ∧ (i ≤ t.size)) (fun (i, v) => t.size - i) ((0, 1)) (by refine ⟨?_, ?_, ?_, ?_, ?_, ?_, by simp⟩ <;> (first | (simp (maxSteps := 5000000) -dsimp only [gr, Nat.reduceEqDiff, Nat.reduceLT, Nat.reduceAdd, Nat.reduceMod, Nat.reduceBEq, sid_mod, sid_ne1, sid_ne2, sid_inj]; first | done | rfl | (simp; done)) | assumption | rfl)) ?_
  intro (i, v) sa ⟨h0a, h1a, h5a, r5a, h6a, h7a, hIa⟩
  have hle := spSt_le t b i
  simp (maxSteps := 5000000) -dsimp only [↓gp, gq, reduceCtorEq, Nat.reduceEqDiff, Nat.reduceLT, Nat.reduceLeDiff, Nat.reduceAdd, Nat.reduceMul, Nat.reduceSub, Nat.reduceBEq, Int.reduceToNat, Int.reduceLE, Int.reduceLT, Int.reduceNeg, Nat.reduceMod, sid_ne1, sid_ne2, sid_inj, sid_mod, gT, TK.isInt, TK.agg, Array.toList, h0a, h1a, h5a, r5a, h6a, h7a, sL_length]
  refine ⟨fun h => ⟨h, fun he => ⟨hle.1, by omega, by omega, ?_⟩, fun he => ?_⟩, fun h => ⟨by omega, by omega, ?_⟩⟩
  · have he : byt t i = b := by have := beq_iff_eq.1 he; unfold byt; omega
    exact again_of ((i + 1, v + 1)) (by refine ⟨?_, ?_, ?_, ?_, ?_, ?_, by omega⟩ <;> (first | (simp (maxSteps := 5000000) -dsimp only [gr, Nat.reduceEqDiff, Nat.reduceLT, Nat.reduceAdd, Nat.reduceMod, Nat.reduceBEq, sid_mod, sid_ne1, sid_ne2, sid_inj, h0a, h1a, h5a, r5a, h6a, h7a, wrap_nat h (by omega), spSt_yes he, sL_snoc]; first | done | rfl | (simp; done)) | assumption | rfl)) (by first | omega | (simp only; omega) | (dsimp only; omega) | (show _ < _; simp; omega))
  · have he : ¬ byt t i = b := by have := beq_eq_false_iff_ne.1 he; unfold byt; omega
    exact again_of ((i + 1, v)) (by refine ⟨?_, ?_, ?_, ?_, ?_, ?_, by omega⟩ <;> (first | (simp (maxSteps := 5000000) -dsimp only [gr, Nat.reduceEqDiff, Nat.reduceLT, Nat.reduceAdd, Nat.reduceMod, Nat.reduceBEq, sid_mod, sid_ne1, sid_ne2, sid_inj, h0a, h1a, h5a, r5a, h6a, h7a, wrap_nat h (by omega), spSt_no he]; first | done | rfl | (simp; done)) | assumption | rfl)) (by first | omega | (simp only; omega) | (dsimp only; omega) | (show _ < _; simp; omega))
  · obtain rfl : i = t.size := by omega
    rfl
theorem c_spec_SplitByte (t : ByteArray) (b : Nat) (ht : t.size ≤ 1000) : AC Try.prog 113 [str t, .v (.int .u8 b)] (.fr 9 1 (sL (splitB t b))) := by
  refine AC.go (rs := [.tmp 4]) T_ok mixed Try.func113 rfl rfl rfl (by kernel_rfl) fun hl => ?_
  simp (maxSteps := 5000000) -dsimp only [↓gp, gq, reduceCtorEq, Nat.reduceEqDiff, Nat.reduceLT, Nat.reduceLeDiff, Nat.reduceAdd, Nat.reduceMul, Nat.reduceSub, Nat.reduceBEq, Int.reduceToNat, Int.reduceLE, Int.reduceLT, Int.reduceNeg, Nat.reduceMod, sid_ne1, sid_ne2, sid_inj, sid_mod, gT, TK.isInt, TK.agg, Array.toList]
  refine loop_of (fun (za : Nat × Nat × List ByteArray × Nat) s => match za with | (i, v, out, st) => s.sl 0 = str t ∧ s.sl 1 = .v (.int .u8 b) ∧ s.sl 5 = .own 8 v ∧ s.rw 8 = ⟨v, .sli 9 1 false (sL out)⟩ ∧ s.sl 6 = int st ∧ s.sl 7 = int i ∧ (i ≤ t.size + 1 ∧ (i ≤ t.size → out = (spSt t b i).1 ∧ st = (spSt t b i).2) ∧ (t.size < i → out = splitB t b))) (fun (i, v, out, st) => t.size + 1 - i) ((0, 1, [], 0)) (by refine ⟨?_, ?_, ?_, ?_, ?_, ?_, ⟨by simp, by simp [spSt], by simp⟩⟩ <;> (first | (simp (maxSteps := 5000000) -dsimp only [gr, Nat.reduceEqDiff, Nat.reduceLT, Nat.reduceAdd, Nat.reduceMod, Nat.reduceBEq, sid_mod, sid_ne1, sid_ne2, sid_inj]; first | done | rfl | (simp; done)) | assumption | rfl)) ?_
  intro (i, v, out, st) sa ⟨h0a, h1a, h5a, r8a, h6a, h7a, hIa⟩
  obtain ⟨hi, h1, h2⟩ := hIa
  have hle := spSt_le t b i
  simp (maxSteps := 5000000) -dsimp only [↓gp, gq, reduceCtorEq, Nat.reduceEqDiff, Nat.reduceLT, Nat.reduceLeDiff, Nat.reduceAdd, Nat.reduceMul, Nat.reduceSub, Nat.reduceBEq, Int.reduceToNat, Int.reduceLE, Int.reduceLT, Int.reduceNeg, Nat.reduceMod, sid_ne1, sid_ne2, sid_inj, sid_mod, gT, TK.isInt, TK.agg, Array.toList, h0a, h1a, h5a, r8a, h6a, h7a, sL_length]
  refine ⟨fun h => ?_, fun h => by rw [h2 (by omega)]⟩
  obtain ⟨rfl, rfl⟩ := h1 h
  refine ⟨fun hne => ?_, fun he => ?_⟩
  · have hne := beq_eq_false_iff_ne.1 hne
    have hlt : i < t.size := by omega
    refine ⟨hlt, fun he => ⟨hle.1, by omega, by omega, ?_⟩, fun he => ?_⟩
    · have he : byt t i = b := by have := beq_iff_eq.1 he; unfold byt; omega
      exact again_of ((i + 1, v + 1, (spSt t b (i + 1)).1, (spSt t b (i + 1)).2)) (by refine ⟨?_, ?_, ?_, ?_, ?_, ?_, ⟨by omega, fun _ => ⟨by rw [spSt_yes he], by rw [spSt_yes he]⟩, by omega⟩⟩ <;> (first | (simp (maxSteps := 5000000) -dsimp only [gr, Nat.reduceEqDiff, Nat.reduceLT, Nat.reduceAdd, Nat.reduceMod, Nat.reduceBEq, sid_mod, sid_ne1, sid_ne2, sid_inj, h0a, h1a, h5a, r8a, h6a, h7a, wrap_nat hlt (by omega), spSt_yes he, sL_snoc]; first | done | rfl | (simp; done)) | assumption | rfl)) (by first | omega | (simp only; omega) | (dsimp only; omega) | (show _ < _; simp; omega))
    · have he : ¬ byt t i = b := by have := beq_eq_false_iff_ne.1 he; unfold byt; omega
      exact again_of ((i + 1, v, (spSt t b i).1, (spSt t b i).2)) (by refine ⟨?_, ?_, ?_, ?_, ?_, ?_, ⟨by omega, fun _ => ⟨by rw [spSt_no he], by rw [spSt_no he]⟩, by omega⟩⟩ <;> (first | (simp (maxSteps := 5000000) -dsimp only [gr, Nat.reduceEqDiff, Nat.reduceLT, Nat.reduceAdd, Nat.reduceMod, Nat.reduceBEq, sid_mod, sid_ne1, sid_ne2, sid_inj, h0a, h1a, h5a, r8a, h6a, h7a, wrap_nat hlt (by omega)]; first | done | rfl | (simp; done)) | assumption | rfl)) (by first | omega | (simp only; omega) | (dsimp only; omega) | (show _ < _; simp; omega))
  · have he := beq_iff_eq.1 he
    obtain rfl : i = t.size := by omega
    refine ⟨hle.1, by omega, by omega, ?_⟩
    have hw : IntKind.i64.wrap ((t.size : Int) + 1) = ((t.size + 1 : Nat) : Int) := wrap_nat (n := t.size + 1) (by omega) (by omega)
    exact again_of ((t.size + 1, v + 1, splitB t b, t.size + 1)) (by refine ⟨?_, ?_, ?_, ?_, ?_, ?_, ⟨by omega, by omega, fun _ => rfl⟩⟩ <;> (first | (simp (maxSteps := 5000000) -dsimp only [gr, Nat.reduceEqDiff, Nat.reduceLT, Nat.reduceAdd, Nat.reduceMod, Nat.reduceBEq, sid_mod, sid_ne1, sid_ne2, sid_inj, h0a, h1a, h5a, r8a, h6a, h7a, hw, sL_snoc, splitB]; first | done | rfl | (simp; done)) | assumption | rfl)) (by first | omega | (simp only; omega) | (dsimp only; omega) | (show _ < _; simp; omega))
theorem c_impl_ParseSet (t : ByteArray) (h : OkSet t) : AC Try.prog 118 [str t] (.tup [.im (int (setV t t.size : Nat)), .im (bool true)]) := by
  refine AC.go (rs := [.tmp 2, .tmp 3]) T_ok mixed Try.func118 rfl rfl rfl (by kernel_rfl) fun hl => ?_
  have hlo := h.lo
  have hhi := h.hi
  have e0 : ((t.size : Int) == 0) = false := beq_eq_false_iff_ne.2 (by omega)
  have e6 : (6 < (t.size : Int)) = False := eq_false (by omega)
  simp (maxSteps := 5000000) -dsimp only [↓gp, gq, reduceCtorEq, Nat.reduceEqDiff, Nat.reduceLT, Nat.reduceLeDiff, Nat.reduceAdd, Nat.reduceMul, Nat.reduceSub, Nat.reduceBEq, Int.reduceToNat, Int.reduceLE, Int.reduceLT, Int.reduceNeg, Nat.reduceMod, sid_ne1, sid_ne2, sid_inj, sid_mod, gT, TK.isInt, TK.agg, Array.toList, h.dash, e0, e6]
  refine loop_of (fun (i : Nat) s => s.sl 0 = str t ∧ s.sl 4 = int (setV t i : Nat) ∧ s.sl 5 = int i ∧ (i ≤ t.size)) (fun i => t.size - i) (0) (by refine ⟨?_, ?_, ?_, by simp⟩ <;> (first | (simp (maxSteps := 5000000) -dsimp only [gr, Nat.reduceEqDiff, Nat.reduceLT, Nat.reduceAdd, Nat.reduceMod, Nat.reduceBEq, sid_mod, sid_ne1, sid_ne2, sid_inj, setV_zero]; first | done | rfl | (simp; done)) | assumption | rfl)) ?_
  intro i sa ⟨h0a, h4a, h5a, hIa⟩
  simp (maxSteps := 5000000) -dsimp only [↓gp, gq, reduceCtorEq, Nat.reduceEqDiff, Nat.reduceLT, Nat.reduceLeDiff, Nat.reduceAdd, Nat.reduceMul, Nat.reduceSub, Nat.reduceBEq, Int.reduceToNat, Int.reduceLE, Int.reduceLT, Int.reduceNeg, Nat.reduceMod, sid_ne1, sid_ne2, sid_inj, sid_mod, gT, TK.isInt, TK.agg, Array.toList, h0a, h4a, h5a]
  have hb : byt t i = (t.data.toList.getD i 0).toNat := rfl
  rw [← hb]
  refine ⟨fun hi => ?_, fun hi => by obtain rfl : i = t.size := by omega
                                     rfl⟩
  have hl1 := h.letter i hi
  have hr := h.rise i hi
  have hv := setV_64 h i (by omega)
  have h2k : 2 ^ (byt t i - 97) < 64 := by have : 2 ^ (byt t i - 97) < 2 ^ 6 := Nat.pow_lt_pow_right (by omega) (by omega); omega
  have hw8 : IntKind.u8.wrap ((byt t i : Int) - 97) = ((byt t i - 97 : Nat) : Int) := by
    simp [IntKind.wrap, IntKind.bits, IntKind.signed]
    omega
  have hw64 : IntKind.u64.wrap ((byt t i - 97 : Nat) : Int) = ((byt t i - 97 : Nat) : Int) := uwrap_id (by omega)
  have hor : ior .i64 ((setV t i : Nat) : Int) (ishl .i64 1 ((byt t i - 97 : Nat) : Int)) = ((setV t (i + 1) : Nat) : Int) := by
    rw [ishl_small (by omega), ior_nat (by omega) (by omega), setV_succ]
  refine ⟨hi, fun _ => ⟨hi, fun hc => by omega, fun _ => ⟨by kernel_rfl, fun h0 => ?_, fun h0 => ⟨hi, by rw [hw8, hw64]; omega, ?_⟩⟩⟩, fun hc => by omega⟩
  · have h0 : 0 < i := by omega
    have hw1 : IntKind.i64.wrap ((i : Int) - 1) = ((i - 1 : Nat) : Int) := by rw [wrap_id (by omega) (by omega)]; omega
    rw [hw1]
    refine ⟨hi, by omega, by omega, fun hc => ?_, fun hc => ⟨hi, by rw [hw8, hw64]; omega, ?_⟩⟩
    · have := hr h0
      unfold byt at this hc
      rw [Int.toNat_natCast] at hc
      omega
    · exact again_of (i + 1) (by refine ⟨?_, ?_, ?_, by omega⟩ <;> (first | (simp (maxSteps := 5000000) -dsimp only [gr, Nat.reduceEqDiff, Nat.reduceLT, Nat.reduceAdd, Nat.reduceMod, Nat.reduceBEq, sid_mod, sid_ne1, sid_ne2, sid_inj, h0a, h4a, h5a, ← hb, hw8, hw64, hor, wrap_nat hi (by omega)]; first | done | rfl | (simp; done)) | assumption | rfl)) (by first | omega | (simp only; omega) | (dsimp only; omega) | (show _ < _; simp; omega))
  · exact again_of (i + 1) (by refine ⟨?_, ?_, ?_, by omega⟩ <;> (first | (simp (maxSteps := 5000000) -dsimp only [gr, Nat.reduceEqDiff, Nat.reduceLT, Nat.reduceAdd, Nat.reduceMod, Nat.reduceBEq, sid_mod, sid_ne1, sid_ne2, sid_inj, h0a, h4a, h5a, ← hb, hw8, hw64, hor, wrap_nat hi (by omega)]; first | done | rfl | (simp; done)) | assumption | rfl)) (by first | omega | (simp only; omega) | (dsimp only; omega) | (show _ < _; simp; omega))
theorem c_spec_ParseSet (t : ByteArray) (h : OkSet t) : AC Try.prog 115 [str t] (.tup [.im (int (setV t t.size : Nat)), .im (bool true)]) := by
  refine AC.go (rs := [.tmp 2, .tmp 3]) T_ok mixed Try.func115 rfl rfl rfl (by kernel_rfl) fun hl => ?_
  simp (maxSteps := 5000000) -dsimp only [↓gp, gq, reduceCtorEq, Nat.reduceEqDiff, Nat.reduceLT, Nat.reduceLeDiff, Nat.reduceAdd, Nat.reduceMul, Nat.reduceSub, Nat.reduceBEq, Int.reduceToNat, Int.reduceLE, Int.reduceLT, Int.reduceNeg, Nat.reduceMod, sid_ne1, sid_ne2, sid_inj, sid_mod, gT, TK.isInt, TK.agg, Array.toList]
  refine loop_of (fun (i : Nat) s => s.sl 0 = str t ∧ s.sl 4 = int (setV t i : Nat) ∧ s.sl 5 = int i ∧ (i ≤ t.size)) (fun i => t.size - i) (0) (by refine ⟨?_, ?_, ?_, by simp⟩ <;> (first | (simp (maxSteps := 5000000) -dsimp only [gr, Nat.reduceEqDiff, Nat.reduceLT, Nat.reduceAdd, Nat.reduceMod, Nat.reduceBEq, sid_mod, sid_ne1, sid_ne2, sid_inj, setV_zero]; first | done | rfl | (simp; done)) | assumption | rfl)) ?_
  intro i sa ⟨h0a, h4a, h5a, hIa⟩
  rcases Nat.lt_or_ge i t.size with hi | hi
  · have hlt : ((i : Int) < (t.size : Int)) = True := eq_true (by omega)
    have hb : byt t i = (t.data.toList.getD i 0).toNat := rfl
    have hl1 := h.letter i hi
    have hhi := h.hi
    have hv := setV_64 h i (by omega)
    have hvl := setV_lt h i hi
    have hw1 : IntKind.i64.wrap (IntKind.i64.wrap (((t.data.toList.getD i 0).toNat : Nat) : Int) - 97) = ((byt t i - 97 : Nat) : Int) := by
      have e1 : IntKind.i64.wrap ((byt t i : Nat) : Int) = ((byt t i : Nat) : Int) := wrap_id (by omega) (by omega)
      rw [← hb, e1, wrap_id (by omega) (by omega)]; omega
    simp (maxSteps := 5000000) -dsimp only [↓gp, gq, reduceCtorEq, Nat.reduceEqDiff, Nat.reduceLT, Nat.reduceLeDiff, Nat.reduceAdd, Nat.reduceMul, Nat.reduceSub, Nat.reduceBEq, Int.reduceToNat, Int.reduceLE, Int.reduceLT, Int.reduceNeg, Nat.reduceMod, sid_ne1, sid_ne2, sid_inj, sid_mod, gT, TK.isInt, TK.agg, Array.toList, h0a, h4a, h5a, h.dash, h.empty, hlt, hw1]
    refine ⟨hi, askK_of (c_spec_l1In _ _ _) ?_⟩
    have hd : (decide ((0 : Int) ≤ ((byt t i - 97 : Nat) : Int)) && decide (((byt t i - 97 : Nat) : Int) ≤ 5)) = true := by simp; omega
    have hw64 : IntKind.u64.wrap ((byt t i - 97 : Nat) : Int) = ((byt t i - 97 : Nat) : Int) := uwrap_id (by omega)
    have hsh : ishr .i64 ((setV t i : Nat) : Int) ((byt t i - 97 : Nat) : Int) = 0 := by
      rw [ishr_i (by omega), Nat.shiftRight_eq_div_pow, Nat.div_eq_of_lt hvl]; rfl
    have h2k : 2 ^ (byt t i - 97) < 64 := by have : 2 ^ (byt t i - 97) < 2 ^ 6 := Nat.pow_lt_pow_right (by omega) (by omega); omega
    have hadd : IntKind.i64.wrap (((setV t i : Nat) : Int) + ishl .i64 1 ((byt t i - 97 : Nat) : Int)) = ((setV t (i + 1) : Nat) : Int) := by
      rw [ishl_small (by omega), wrap_id (by omega) (by omega), ← setV_add h hi]; rfl
    simp (maxSteps := 5000000) -dsimp only [↓gp, gq, reduceCtorEq, Nat.reduceEqDiff, Nat.reduceLT, Nat.reduceLeDiff, Nat.reduceAdd, Nat.reduceMul, Nat.reduceSub, Nat.reduceBEq, Int.reduceToNat, Int.reduceLE, Int.reduceLT, Int.reduceNeg, Nat.reduceMod, sid_ne1, sid_ne2, sid_inj, sid_mod, gT, TK.isInt, TK.agg, Array.toList, h0a, h4a, h5a, hlt, hw1, hd, hw64, hsh, hadd]
    have hd2 : (!(decide True && decide (((byt t i - 97 : Nat) : Int) ≤ 5))) = false := by simp; omega
    refine ⟨fun _ => ⟨fun hc => (by simp at hc), fun _ => again_of (i + 1) (by refine ⟨?_, ?_, ?_, by omega⟩ <;> (first | (simp (maxSteps := 5000000) -dsimp only [gr, Nat.reduceEqDiff, Nat.reduceLT, Nat.reduceAdd, Nat.reduceMod, Nat.reduceBEq, sid_mod, sid_ne1, sid_ne2, sid_inj, h0a, h4a, h5a, hw1, hw64, hadd, wrap_nat hi (by omega)]; first | done | rfl | (simp; done)) | assumption | rfl)) (by first | omega | (simp only; omega) | (dsimp only; omega) | (show _ < _; simp; omega))⟩, fun hc => by rw [hd2] at hc; cases hc⟩
  · obtain rfl : i = t.size := by omega
    have hlt : ((t.size : Int) < (t.size : Int)) = False := eq_false (by omega)
    simp (maxSteps := 5000000) -dsimp only [↓gp, gq, reduceCtorEq, Nat.reduceEqDiff, Nat.reduceLT, Nat.reduceLeDiff, Nat.reduceAdd, Nat.reduceMul, Nat.reduceSub, Nat.reduceBEq, Int.reduceToNat, Int.reduceLE, Int.reduceLT, Int.reduceNeg, Nat.reduceMod, sid_ne1, sid_ne2, sid_inj, sid_mod, gT, TK.isInt, TK.agg, Array.toList, h0a, h4a, h5a, h.dash, h.empty, hlt]
/-- The sets of the parts. -/
def facs (ps : List ByteArray) : List Int := ps.map fun p => ((setV p p.size : Nat) : Int)
theorem facs_take {ps : List ByteArray} {k : Nat} (h : k < ps.length) : facs (ps.take (k + 1)) = facs (ps.take k) ++ [((setV (ps.getD k ⟨#[]⟩) (ps.getD k ⟨#[]⟩).size : Nat) : Int)] := by
  unfold facs
  rw [take_snoc ⟨#[]⟩ h, List.map_append]; rfl
def chr (n : Nat) : ByteArray := ⟨#[UInt8.ofNat (48 + n)]⟩
/-- A text that tells a complex. -/
structure OkText (t : ByteArray) (n : Nat) (rest : ByteArray) (ps : List ByteArray) : Prop where
  size : 2 ≤ t.size ∧ t.size ≤ 1000
  pts : 1 ≤ n ∧ n ≤ 6
  b0 : byt t 0 = 48 + n
  b1 : byt t 1 = 58
  tail : t.extract 2 t.size = rest
  rsize : rest.size ≤ 1000
  full : (rest.toList == (⟨#[]⟩ : ByteArray).toList) = false
  parts : splitB rest 44 = ps
  plen : ps.length ≤ 1000
  pne : 0 < ps.length
  sets : ∀ p ∈ ps, OkSet p
  head : splitB t 58 = [chr n, rest]
  cx : cxP n (facs ps)
theorem adopt_tvvv {s : St} (d : Nat) (x y z : Value) : adoptSt s d (.tup [.im (.v x), .im (.v y), .im (.v z)]) = s.put (some d) (.tup [.v x, .v y, .v z]) := by
  unfold adoptSt
  simp [leaves_tup, leaves, addRows, adopt2, adopt1, adoptL, adopt0, leafId, St.row, setIf]
theorem c_impl_parseHead {t rest : ByteArray} {n : Nat} {ps : List ByteArray} (h : OkText t n rest ps) : AC Try.prog 116 [str t] (.tup [.im (int n), .im (str rest), .im (bool true)]) := by
  refine AC.go (rs := [.tmp 2, .tmp 3, .tmp 4]) T_ok mixed Try.func116 rfl rfl rfl (by kernel_rfl) fun hl => ?_
  have h1 := h.size
  have h2 := h.pts
  have h3 : (t.data.toList.getD 0 0).toNat = 48 + n := h.b0
  have h4 : (t.data.toList.getD 1 0).toNat = 58 := h.b1
  simp (maxSteps := 5000000) -dsimp only [↓gp, gq, reduceCtorEq, Nat.reduceEqDiff, Nat.reduceLT, Nat.reduceLeDiff, Nat.reduceAdd, Nat.reduceMul, Nat.reduceSub, Nat.reduceBEq, Int.reduceToNat, Int.reduceLE, Int.reduceLT, Int.reduceNeg, Nat.reduceMod, sid_ne1, sid_ne2, sid_inj, sid_mod, gT, TK.isInt, TK.agg, Array.toList, h3, h4]
  have hw8 : IntKind.u8.wrap (((48 + n : Nat) : Int) - 48) = (n : Int) := by
    simp [IntKind.wrap, IntKind.bits, IntKind.signed]
    omega
  refine ⟨fun _ => ⟨by omega, fun _ => ⟨by omega, fun _ => ⟨by omega, fun hc => (by simp at hc), fun _ => ⟨by kernel_rfl, by omega, by omega, ?_, h.tail.symm⟩⟩, fun hc => (by omega)⟩, fun hc => (by omega)⟩, fun hc => (by omega)⟩
  rw [hw8, wrap_id (by omega) (by omega)]
theorem c_impl_ParseComplex {t rest : ByteArray} {n : Nat} {ps : List ByteArray} (h : OkText t n rest ps) : AC Try.prog 83 [str t] (.tup [.ag [.im (int n), .fr 3 1 (iL (facs ps))], .im (bool true)]) := by
  refine AC.go (rs := [.cell 2 24, .tmp 3]) T_ok mixed Try.func83 rfl rfl rfl (by kernel_rfl) fun hl => ?_
  simp (maxSteps := 5000000) -dsimp only [↓gp, gq, reduceCtorEq, Nat.reduceEqDiff, Nat.reduceLT, Nat.reduceLeDiff, Nat.reduceAdd, Nat.reduceMul, Nat.reduceSub, Nat.reduceBEq, Int.reduceToNat, Int.reduceLE, Int.reduceLT, Int.reduceNeg, Nat.reduceMod, sid_ne1, sid_ne2, sid_inj, sid_mod, gT, TK.isInt, TK.agg, Array.toList]
  refine askK_of (c_impl_parseHead h) ?_
  simp (maxSteps := 5000000) -dsimp only [↓gp, gq, reduceCtorEq, Nat.reduceEqDiff, Nat.reduceLT, Nat.reduceLeDiff, Nat.reduceAdd, Nat.reduceMul, Nat.reduceSub, Nat.reduceBEq, Int.reduceToNat, Int.reduceLE, Int.reduceLT, Int.reduceNeg, Nat.reduceMod, sid_ne1, sid_ne2, sid_inj, sid_mod, gT, TK.isInt, TK.agg, Array.toList, adopt_tvvv, h.full]
  refine askK_of (c_impl_SplitByte rest 44 h.rsize) ?_
  rw [h.parts]
  simp (maxSteps := 5000000) -dsimp only [↓gp, gq, reduceCtorEq, Nat.reduceEqDiff, Nat.reduceLT, Nat.reduceLeDiff, Nat.reduceAdd, Nat.reduceMul, Nat.reduceSub, Nat.reduceBEq, Int.reduceToNat, Int.reduceLE, Int.reduceLT, Int.reduceNeg, Nat.reduceMod, sid_ne1, sid_ne2, sid_inj, sid_mod, gT, TK.isInt, TK.agg, Array.toList, sL_length]
  refine loop_of (fun (za : Nat × Nat × PV × RK × Nat × Nat) s => match za with | (k, u, fc, kd, v, y) => s.sl 2 = .ref 2 1 0 ∧ s.rw 2 = ⟨1, .box 24 [int 0, .v (.slice none 0 0)]⟩ ∧ s.sl 7 = .ref 7 y 0 ∧ s.rw 7 = ⟨y, .box 24 [int n, fc]⟩ ∧ s.rw 44 = ⟨u, kd⟩ ∧ s.sl 26 = .own 26 v ∧ s.rw 26 = ⟨v, .sli 9 1 false (sL ps)⟩ ∧ s.sl 27 = int ps.length ∧ s.sl 28 = int k ∧ (k ≤ ps.length ∧ ((k = 0 ∧ fc = .v (.slice none 0 0)) ∨ (0 < k ∧ fc = .own 44 u ∧ kd = .sli 3 1 false (iL (facs (ps.take k))))))) (fun (k, u, fc, kd, v, y) => ps.length - k) ((0, 0, .v (.slice none 0 0), .dead, 1, 1)) (by refine ⟨?_, ?_, ?_, ?_, ?_, ?_, ?_, ?_, ?_, by simp⟩ <;> (first | (simp (maxSteps := 5000000) -dsimp only [gr, Nat.reduceEqDiff, Nat.reduceLT, Nat.reduceAdd, Nat.reduceMod, Nat.reduceBEq, sid_mod, sid_ne1, sid_ne2, sid_inj, sL_length]; first | done | rfl | (simp; done)) | assumption | rfl)) ?_
  intro (k, u, fc, kd, v, y) sa ⟨h2a, r2a, h7a, r7a, r44a, h26a, r26a, h27a, h28a, hIa⟩
  obtain ⟨hk, hfc⟩ := hIa
  have hfl : (facs (ps.take k)).length = k := by unfold facs; simp; omega
  rcases hfc with ⟨rfl, rfl⟩ | ⟨h0, rfl, rfl⟩
  · simp (maxSteps := 5000000) -dsimp only [↓gp, gq, reduceCtorEq, Nat.reduceEqDiff, Nat.reduceLT, Nat.reduceLeDiff, Nat.reduceAdd, Nat.reduceMul, Nat.reduceSub, Nat.reduceBEq, Int.reduceToNat, Int.reduceLE, Int.reduceLT, Int.reduceNeg, Nat.reduceMod, sid_ne1, sid_ne2, sid_inj, sid_mod, gT, TK.isInt, TK.agg, Array.toList, h2a, r2a, h7a, r7a, r44a, h26a, r26a, h27a, h28a, sL_length]
    refine ⟨fun hlt => ⟨hlt, hlt, askK_of (c_impl_ParseSet _ (h.sets _ (getD_mem ⟨#[]⟩ hlt))) ?_⟩, fun hge => ?_⟩
    · simp (maxSteps := 5000000) -dsimp only [↓gp, gq, reduceCtorEq, Nat.reduceEqDiff, Nat.reduceLT, Nat.reduceLeDiff, Nat.reduceAdd, Nat.reduceMul, Nat.reduceSub, Nat.reduceBEq, Int.reduceToNat, Int.reduceLE, Int.reduceLT, Int.reduceNeg, Nat.reduceMod, sid_ne1, sid_ne2, sid_inj, sid_mod, gT, TK.isInt, TK.agg, Array.toList, h2a, r2a, h7a, r7a, r44a, h26a, r26a, h27a, h28a, sL_length]
      have hf1 : facs (ps.take 1) = [((setV (ps.getD 0 ⟨#[]⟩) (ps.getD 0 ⟨#[]⟩).size : Nat) : Int)] := facs_take hlt
      exact again_of ((1, u + 1, .own 44 (u + 1), .sli 3 1 false (iL (facs (ps.take 1))), v, y)) (by refine ⟨?_, ?_, ?_, ?_, ?_, ?_, ?_, ?_, ?_, ⟨by omega, Or.inr ⟨by omega, rfl, rfl⟩⟩⟩ <;> (first | (simp (maxSteps := 5000000) -dsimp only [gr, Nat.reduceEqDiff, Nat.reduceLT, Nat.reduceAdd, Nat.reduceMod, Nat.reduceBEq, sid_mod, sid_ne1, sid_ne2, sid_inj, h2a, r2a, h7a, r7a, r44a, h26a, r26a, h27a, h28a, hf1]; first | done | rfl | (simp; done)) | assumption | rfl)) (by first | omega | (simp only; omega) | (dsimp only; omega) | (show _ < _; simp; omega))
    · exact absurd h.pne hge
  · simp (maxSteps := 5000000) -dsimp only [↓gp, gq, reduceCtorEq, Nat.reduceEqDiff, Nat.reduceLT, Nat.reduceLeDiff, Nat.reduceAdd, Nat.reduceMul, Nat.reduceSub, Nat.reduceBEq, Int.reduceToNat, Int.reduceLE, Int.reduceLT, Int.reduceNeg, Nat.reduceMod, sid_ne1, sid_ne2, sid_inj, sid_mod, gT, TK.isInt, TK.agg, Array.toList, h2a, r2a, h7a, r7a, r44a, h26a, r26a, h27a, h28a, sL_length, iL_length, hfl]
    refine ⟨fun hlt => ⟨hlt, hlt, askK_of (c_impl_ParseSet _ (h.sets _ (getD_mem ⟨#[]⟩ hlt))) ?_⟩, fun hge => ?_⟩
    · simp (maxSteps := 5000000) -dsimp only [↓gp, gq, reduceCtorEq, Nat.reduceEqDiff, Nat.reduceLT, Nat.reduceLeDiff, Nat.reduceAdd, Nat.reduceMul, Nat.reduceSub, Nat.reduceBEq, Int.reduceToNat, Int.reduceLE, Int.reduceLT, Int.reduceNeg, Nat.reduceMod, sid_ne1, sid_ne2, sid_inj, sid_mod, gT, TK.isInt, TK.agg, Array.toList, h2a, r2a, h7a, r7a, r44a, h26a, r26a, h27a, h28a, sL_length, hfl]
      have hpl := h.plen
      refine ⟨by omega, ?_⟩
      exact again_of ((k + 1, u + 1, .own 44 (u + 1), .sli 3 1 false (iL (facs (ps.take (k + 1)))), v, y)) (by refine ⟨?_, ?_, ?_, ?_, ?_, ?_, ?_, ?_, ?_, ⟨by omega, Or.inr ⟨by omega, rfl, rfl⟩⟩⟩ <;> (first | (simp (maxSteps := 5000000) -dsimp only [gr, Nat.reduceEqDiff, Nat.reduceLT, Nat.reduceAdd, Nat.reduceMod, Nat.reduceBEq, sid_mod, sid_ne1, sid_ne2, sid_inj, h2a, r2a, h7a, r7a, r44a, h26a, r26a, h27a, h28a, facs_take hlt, wrap_nat hlt (by omega)]; first | done | rfl | (simp; done)) | assumption | rfl)) (by first | omega | (simp only; omega) | (dsimp only; omega) | (show _ < _; simp; omega))
    · obtain rfl : k = ps.length := by omega
      rw [List.take_length]
      have hcx := isCx_yes h.cx
      refine askK_of (c_impl_IsComplex n (facs ps)) ?_
      simp (maxSteps := 5000000) -dsimp only [↓gp, gq, reduceCtorEq, Nat.reduceEqDiff, Nat.reduceLT, Nat.reduceLeDiff, Nat.reduceAdd, Nat.reduceMul, Nat.reduceSub, Nat.reduceBEq, Int.reduceToNat, Int.reduceLE, Int.reduceLT, Int.reduceNeg, Nat.reduceMod, sid_ne1, sid_ne2, sid_inj, sid_mod, gT, TK.isInt, TK.agg, Array.toList, h2a, r2a, h7a, r7a, r44a, h26a, r26a, h27a, h28a, hcx, hfl, List.take_length]

def cvRow (r : Row) (ver : Nat) (Kp : PV → Prop) : Prop := r.ver = ver ∧ match r.kind with
  | .nil => ∃ bs : List Int, [] = bs.map (fun n => PV.v (.int .u8 n)) ∧ Kp (.v (.string (bs.foldl (fun r n => r.push (UInt8.ofNat n.toNat)) ByteArray.empty)))
  | .sli _ sz _ c => sz = 1 ∧ ∃ bs : List Int, c = bs.map (fun n => PV.v (.int .u8 n)) ∧ Kp (.v (.string (bs.foldl (fun r n => r.push (UInt8.ofNat n.toNat)) ByteArray.empty)))
  | _ => False
theorem conv_own (rw : Nat → Row) (j ver : Nat) {Kp : PV → Prop} : convK T rw 103 9 (.own j ver) Kp = cvRow (rw j) ver Kp := by
  have ha : (T 103).k = .sli 5 := T103k
  have hb : (T 9).k = .str := T9k
  have he : (T 5).k = .int .u8 := T5k
  have s1 : (T 103).size = 1 := T103s
  have s2 : (T 9).size = 1 := T9s
  have s3 : (T 5).size = 1 := T5s
  unfold convK cvRow
  simp only [ha, hb, he, s1, s2, s3, slK]
  cases h : (rw j).kind <;> simp
theorem cvRow_one (ver e : Nat) (fz : Bool) (n : Int) {Kp : PV → Prop} : cvRow ⟨ver, .sli e 1 fz [.v (.int .u8 n)]⟩ ver Kp = Kp (.v (.string ([n].foldl (fun r n => r.push (UInt8.ofNat n.toNat)) ByteArray.empty))) := by
  unfold cvRow
  simp only [true_and]
  refine propext ⟨fun ⟨bs, hb, h⟩ => ?_, fun h => ⟨[n], rfl, h⟩⟩
  match bs, hb with
  | [m], hb => simp at hb; subst hb; exact h
theorem lit_u8 (n : Int) : lit [.v (.int .u8 n)] = [.v (.int .u8 n)] := rfl
theorem chr_size (n : Nat) : (chr n).size = 1 := rfl
theorem chr_at {n : Nat} (h : n ≤ 9) : ((chr n).data.toList.getD 0 0).toNat = 48 + n := by
  show (UInt8.ofNat (48 + n)).toNat = 48 + n
  simp
  omega
theorem chr_of {n : Nat} (h : n ≤ 9) : ([(48 + n : Int)].foldl (fun r n => r.push (UInt8.ofNat n.toNat)) ByteArray.empty) ++ ⟨#[]⟩ = chr n := by
  have : ∀ m : Fin 10, ([(48 + (m.val : Nat) : Int)].foldl (fun r n => r.push (UInt8.ofNat n.toNat)) ByteArray.empty) ++ ⟨#[]⟩ = chr m.val := by decide +kernel
  exact this ⟨n, by omega⟩
theorem c_spec_FormatInt {n : Nat} (h1 : 1 ≤ n) (h9 : n ≤ 9) : AC Try.prog 147 [int n] (.im (str (chr n))) := by
  refine AC.go (rs := [.tmp 2]) T_ok mixed Try.func147 rfl rfl rfl (by kernel_rfl) fun hl => ?_
  have e0 : ((n : Int) == 0) = false := beq_eq_false_iff_ne.2 (by omega)
  simp (maxSteps := 5000000) -dsimp only [↓gp, gq, reduceCtorEq, Nat.reduceEqDiff, Nat.reduceLT, Nat.reduceLeDiff, Nat.reduceAdd, Nat.reduceMul, Nat.reduceSub, Nat.reduceBEq, Int.reduceToNat, Int.reduceLE, Int.reduceLT, Int.reduceNeg, Nat.reduceMod, sid_ne1, sid_ne2, sid_inj, sid_mod, gT, TK.isInt, TK.agg, Array.toList, e0]
  refine loop_of (fun (za : Nat × ByteArray) s => match za with | (m, o) => s.sl 0 = int m ∧ s.sl 3 = bool false ∧ s.sl 4 = str o ∧ ((m = n ∧ o = ⟨#[]⟩) ∨ (m = 0 ∧ o = chr n))) (fun (m, o) => m) ((n, ⟨#[]⟩)) (by refine ⟨?_, ?_, ?_, Or.inl ⟨rfl, rfl⟩⟩ <;> (first | (simp (maxSteps := 5000000) -dsimp only [gr, Nat.reduceEqDiff, Nat.reduceLT, Nat.reduceAdd, Nat.reduceMod, Nat.reduceBEq, sid_mod, sid_ne1, sid_ne2, sid_inj, decide_eq_false (show ¬ ((n : Int) < 0) by omega)]; first | done | rfl | (simp; done)) | assumption | rfl)) ?_
  intro (m, o) sa ⟨h0a, h3a, h4a, hIa⟩
  rcases hIa with ⟨rfl, rfl⟩ | ⟨rfl, rfl⟩
  · have ht : ((m : Int)).tmod 10 = (m : Int) := Int.tmod_eq_of_lt (by omega) (by omega)
    have hw : IntKind.i64.wrap (48 + (m : Int)) = 48 + (m : Int) := wrap_id (by omega) (by omega)
    have hw8 : IntKind.u8.wrap (48 + (m : Int)) = 48 + (m : Int) := by
      simp [IntKind.wrap, IntKind.bits, IntKind.signed]
      omega
    have hq : ((m : Int)).tdiv 10 = 0 := Int.tdiv_eq_zero_of_lt (by omega) (by omega)
    have hc := chr_of h9
    simp (maxSteps := 5000000) -dsimp only [↓gp, gq, reduceCtorEq, Nat.reduceEqDiff, Nat.reduceLT, Nat.reduceLeDiff, Nat.reduceAdd, Nat.reduceMul, Nat.reduceSub, Nat.reduceBEq, Int.reduceToNat, Int.reduceLE, Int.reduceLT, Int.reduceNeg, Nat.reduceMod, sid_ne1, sid_ne2, sid_inj, sid_mod, gT, TK.isInt, TK.agg, Array.toList, h0a, h3a, h4a, conv_own, cvRow_one, lit_u8, ht, hw, hw8, hq, hc]
    refine ⟨fun _ => ⟨by decide, fun h => absurd h (by omega), fun _ => ⟨?_, by decide, again_of ((0, chr m)) (by refine ⟨?_, ?_, ?_, Or.inr ⟨rfl, rfl⟩⟩ <;> (first | (simp (maxSteps := 5000000) -dsimp only [gr, Nat.reduceEqDiff, Nat.reduceLT, Nat.reduceAdd, Nat.reduceMod, Nat.reduceBEq, sid_mod, sid_ne1, sid_ne2, sid_inj, h0a, h3a, h4a, ht, hw, hw8, hq, hc]; first | done | rfl | (simp; done)) | assumption | rfl)) (by first | omega | (simp only; omega) | (dsimp only; omega) | (show _ < _; simp; omega))⟩⟩, fun h => ?_⟩
    · show 1 + 0 ≤ 9223372036854775807
      omega
    · simp at h
      omega
  · simp (maxSteps := 5000000) -dsimp only [↓gp, gq, reduceCtorEq, Nat.reduceEqDiff, Nat.reduceLT, Nat.reduceLeDiff, Nat.reduceAdd, Nat.reduceMul, Nat.reduceSub, Nat.reduceBEq, Int.reduceToNat, Int.reduceLE, Int.reduceLT, Int.reduceNeg, Nat.reduceMod, sid_ne1, sid_ne2, sid_inj, sid_mod, gT, TK.isInt, TK.agg, Array.toList, h0a, h3a, h4a, show (((0 : Nat) : Int) != 0) = false from rfl]
theorem c_spec_l1Read {n : Nat} (h1 : 1 ≤ n) (h9 : n ≤ 9) : AC Try.prog 139 [str (chr n), int 12] (.tup [.im (int n), .im (bool true)]) := by
  refine AC.go (rs := [.tmp 4, .tmp 5]) T_ok mixed Try.func139 rfl rfl rfl (by kernel_rfl) fun hl => ?_
  have hc := chr_at h9
  have e45 : (((48 + n : Nat) : Int) == 45) = false := beq_eq_false_iff_ne.2 (by omega)
  have hz1 : ((1 : Nat) : Int) = 1 := rfl
  simp (maxSteps := 5000000) -dsimp only [↓gp, gq, reduceCtorEq, Nat.reduceEqDiff, Nat.reduceLT, Nat.reduceLeDiff, Nat.reduceAdd, Nat.reduceMul, Nat.reduceSub, Nat.reduceBEq, Int.reduceToNat, Int.reduceLE, Int.reduceLT, Int.reduceNeg, Nat.reduceMod, sid_ne1, sid_ne2, sid_inj, sid_mod, gT, TK.isInt, TK.agg, Array.toList, chr_size, hc, e45, hz1]
  refine loop_of (fun (i : Nat) s => s.sl 0 = str (chr n) ∧ s.sl 6 = bool false ∧ s.sl 7 = str (chr n) ∧ s.sl 8 = int (if i = 0 then 0 else n : Nat) ∧ s.sl 9 = int i ∧ (i ≤ 1)) (fun i => 1 - i) (0) (by refine ⟨?_, ?_, ?_, ?_, ?_, by simp⟩ <;> (first | (simp (maxSteps := 5000000) -dsimp only [gr, Nat.reduceEqDiff, Nat.reduceLT, Nat.reduceAdd, Nat.reduceMod, Nat.reduceBEq, sid_mod, sid_ne1, sid_ne2, sid_inj]; first | done | rfl | (simp; done)) | assumption | rfl)) ?_
  intro i sa ⟨h0a, h6a, h7a, h8a, h9a, hIa⟩
  have hi : i = 0 ∨ i = 1 := by omega
  rcases hi with rfl | rfl
  · have z0 : ((0 : Nat) : Int) = 0 := rfl
    have hw8 : IntKind.u8.wrap (((48 + n : Nat) : Int) - 48) = (n : Int) := by
      simp [IntKind.wrap, IntKind.bits, IntKind.signed]
      omega
    have hw : IntKind.i64.wrap (n : Int) = (n : Int) := wrap_id (by omega) (by omega)
    have hm : IntKind.i64.wrap (10 * 0) = 0 := by decide
    have ha : IntKind.i64.wrap (0 + (n : Int)) = (n : Int) := by rw [Int.zero_add]; exact hw
    have h01 : IntKind.i64.wrap (0 + 1) = 1 := by decide
    simp (maxSteps := 5000000) -dsimp only [↓gp, gq, reduceCtorEq, Nat.reduceEqDiff, Nat.reduceLT, Nat.reduceLeDiff, Nat.reduceAdd, Nat.reduceMul, Nat.reduceSub, Nat.reduceBEq, Int.reduceToNat, Int.reduceLE, Int.reduceLT, Int.reduceNeg, Nat.reduceMod, sid_ne1, sid_ne2, sid_inj, sid_mod, gT, TK.isInt, TK.agg, Array.toList, h0a, h6a, h7a, h8a, h9a, chr_size, hc, hz1, z0]
    refine ⟨fun _ => ⟨fun hx => absurd hx (by omega), fun _ => again_of (1) (by refine ⟨?_, ?_, ?_, ?_, ?_, by omega⟩ <;> (first | (simp (maxSteps := 5000000) -dsimp only [gr, Nat.reduceEqDiff, Nat.reduceLT, Nat.reduceAdd, Nat.reduceMod, Nat.reduceBEq, sid_mod, sid_ne1, sid_ne2, sid_inj, h0a, h6a, h7a, h8a, h9a, hw8, hw, hm, ha, h01]; first | done | rfl | (simp; done)) | assumption | rfl)) (by first | omega | (simp only; omega) | (dsimp only; omega) | (show _ < _; simp; omega))⟩, fun hx => absurd hx (by omega)⟩
  · simp (maxSteps := 5000000) -dsimp only [↓gp, gq, reduceCtorEq, Nat.reduceEqDiff, Nat.reduceLT, Nat.reduceLeDiff, Nat.reduceAdd, Nat.reduceMul, Nat.reduceSub, Nat.reduceBEq, Int.reduceToNat, Int.reduceLE, Int.reduceLT, Int.reduceNeg, Nat.reduceMod, sid_ne1, sid_ne2, sid_inj, sid_mod, gT, TK.isInt, TK.agg, Array.toList, h0a, h6a, h7a, h8a, h9a, chr_size, hc, hz1]
    refine askK_of (c_spec_FormatInt h1 h9) ?_
    simp (maxSteps := 5000000) -dsimp only [↓gp, gq, reduceCtorEq, Nat.reduceEqDiff, Nat.reduceLT, Nat.reduceLeDiff, Nat.reduceAdd, Nat.reduceMul, Nat.reduceSub, Nat.reduceBEq, Int.reduceToNat, Int.reduceLE, Int.reduceLT, Int.reduceNeg, Nat.reduceMod, sid_ne1, sid_ne2, sid_inj, sid_mod, gT, TK.isInt, TK.agg, Array.toList, h0a, h6a, h7a, h8a, h9a, chr_size, beq_self_eq_true]
theorem c_spec_ParseInt {n : Nat} (h1 : 1 ≤ n) (h9 : n ≤ 9) : AC Try.prog 114 [str (chr n)] (.tup [.im (int n), .im (bool true)]) := by
  refine AC.go (rs := [.tmp 2, .tmp 3]) T_ok mixed Try.func114 rfl rfl rfl (by kernel_rfl) fun hl => ?_
  simp (maxSteps := 5000000) -dsimp only [↓gp, gq, reduceCtorEq, Nat.reduceEqDiff, Nat.reduceLT, Nat.reduceLeDiff, Nat.reduceAdd, Nat.reduceMul, Nat.reduceSub, Nat.reduceBEq, Int.reduceToNat, Int.reduceLE, Int.reduceLT, Int.reduceNeg, Nat.reduceMod, sid_ne1, sid_ne2, sid_inj, sid_mod, gT, TK.isInt, TK.agg, Array.toList]
  refine askK_of (c_spec_l1Read h1 h9) ?_
  simp (maxSteps := 5000000) -dsimp only [↓gp, gq, reduceCtorEq, Nat.reduceEqDiff, Nat.reduceLT, Nat.reduceLeDiff, Nat.reduceAdd, Nat.reduceMul, Nat.reduceSub, Nat.reduceBEq, Int.reduceToNat, Int.reduceLE, Int.reduceLT, Int.reduceNeg, Nat.reduceMod, sid_ne1, sid_ne2, sid_inj, sid_mod, gT, TK.isInt, TK.agg, Array.toList]
theorem c_spec_ParseComplex {t rest : ByteArray} {n : Nat} {ps : List ByteArray} (h : OkText t n rest ps) : AC Try.prog 81 [str t] (.tup [.ag [.im (int n), .fr 3 1 (iL (facs ps))], .im (bool true)]) := by
  refine AC.go (rs := [.cell 2 24, .tmp 3]) T_ok mixed Try.func81 rfl rfl rfl (by kernel_rfl) fun hl => ?_
  simp (maxSteps := 5000000) -dsimp only [↓gp, gq, reduceCtorEq, Nat.reduceEqDiff, Nat.reduceLT, Nat.reduceLeDiff, Nat.reduceAdd, Nat.reduceMul, Nat.reduceSub, Nat.reduceBEq, Int.reduceToNat, Int.reduceLE, Int.reduceLT, Int.reduceNeg, Nat.reduceMod, sid_ne1, sid_ne2, sid_inj, sid_mod, gT, TK.isInt, TK.agg, Array.toList]
  refine askK_of (c_spec_SplitByte t 58 h.size.2) ?_
  rw [h.head]
  have hz2 : (((2 : Nat) : Int) != 2) = false := rfl
  simp (maxSteps := 5000000) -dsimp only [↓gp, gq, reduceCtorEq, Nat.reduceEqDiff, Nat.reduceLT, Nat.reduceLeDiff, Nat.reduceAdd, Nat.reduceMul, Nat.reduceSub, Nat.reduceBEq, Int.reduceToNat, Int.reduceLE, Int.reduceLT, Int.reduceNeg, Nat.reduceMod, sid_ne1, sid_ne2, sid_inj, sid_mod, gT, TK.isInt, TK.agg, Array.toList, sL_length, hz2]
  refine ⟨by omega, askK_of (c_spec_ParseInt h.pts.1 (by have := h.pts; omega)) ?_⟩
  simp (maxSteps := 5000000) -dsimp only [↓gp, gq, reduceCtorEq, Nat.reduceEqDiff, Nat.reduceLT, Nat.reduceLeDiff, Nat.reduceAdd, Nat.reduceMul, Nat.reduceSub, Nat.reduceBEq, Int.reduceToNat, Int.reduceLE, Int.reduceLT, Int.reduceNeg, Nat.reduceMod, sid_ne1, sid_ne2, sid_inj, sid_mod, gT, TK.isInt, TK.agg, Array.toList]
  refine ⟨by omega, askK_of (c_spec_SplitByte rest 44 h.rsize) ?_⟩
  rw [h.parts]
  simp (maxSteps := 5000000) -dsimp only [↓gp, gq, reduceCtorEq, Nat.reduceEqDiff, Nat.reduceLT, Nat.reduceLeDiff, Nat.reduceAdd, Nat.reduceMul, Nat.reduceSub, Nat.reduceBEq, Int.reduceToNat, Int.reduceLE, Int.reduceLT, Int.reduceNeg, Nat.reduceMod, sid_ne1, sid_ne2, sid_inj, sid_mod, gT, TK.isInt, TK.agg, Array.toList, sL_length]
  refine loop_of (fun (za : Nat × Nat × PV × RK × Nat × Nat × Nat) s => match za with | (k, u, fc, kd, v, y, z) => s.sl 2 = .ref 2 1 0 ∧ s.rw 2 = ⟨1, .box 24 [int 0, .v (.slice none 0 0)]⟩ ∧ s.sl 7 = .ref 7 y 0 ∧ s.rw 7 = ⟨y, .box 24 [int n, fc]⟩ ∧ s.rw 58 = ⟨u, kd⟩ ∧ s.sl 4 = .own 13 z ∧ s.rw 13 = ⟨z, .sli 9 1 false (sL [chr n, rest])⟩ ∧ s.sl 6 = bool true ∧ s.sl 8 = .own 30 v ∧ s.rw 30 = ⟨v, .sli 9 1 false (sL ps)⟩ ∧ s.sl 9 = int k ∧ (k ≤ ps.length ∧ ((k = 0 ∧ fc = .v (.slice none 0 0)) ∨ (0 < k ∧ fc = .own 58 u ∧ kd = .sli 3 1 false (iL (facs (ps.take k))))))) (fun (k, u, fc, kd, v, y, z) => ps.length - k) ((0, 0, .v (.slice none 0 0), .dead, 1, 1, 1)) (by refine ⟨?_, ?_, ?_, ?_, ?_, ?_, ?_, ?_, ?_, ?_, ?_, by simp⟩ <;> (first | (simp (maxSteps := 5000000) -dsimp only [gr, Nat.reduceEqDiff, Nat.reduceLT, Nat.reduceAdd, Nat.reduceMod, Nat.reduceBEq, sid_mod, sid_ne1, sid_ne2, sid_inj, sL_length]; first | done | rfl | (simp; done)) | assumption | rfl)) ?_
  intro (k, u, fc, kd, v, y, z) sa ⟨h2a, r2a, h7a, r7a, r58a, h4a, r13a, h6a, h8a, r30a, h9a, hIa⟩
  obtain ⟨hk, hfc⟩ := hIa
  have hfl : (facs (ps.take k)).length = k := by unfold facs; simp; omega
  have hr1 : [chr n, rest].getD 1 ⟨#[]⟩ = rest := rfl
  rcases hfc with ⟨rfl, rfl⟩ | ⟨h0, rfl, rfl⟩
  · simp (maxSteps := 5000000) -dsimp only [↓gp, gq, reduceCtorEq, Nat.reduceEqDiff, Nat.reduceLT, Nat.reduceLeDiff, Nat.reduceAdd, Nat.reduceMul, Nat.reduceSub, Nat.reduceBEq, Int.reduceToNat, Int.reduceLE, Int.reduceLT, Int.reduceNeg, Nat.reduceMod, sid_ne1, sid_ne2, sid_inj, sid_mod, gT, TK.isInt, TK.agg, Array.toList, h2a, r2a, h7a, r7a, r58a, h4a, r13a, h6a, h8a, r30a, h9a, sL_length, hr1, h.full]
    refine ⟨fun hlt => ⟨by omega, hlt, hlt, askK_of (c_spec_ParseSet _ (h.sets _ (getD_mem ⟨#[]⟩ hlt))) ?_⟩, fun hge => absurd h.pne hge⟩
    simp (maxSteps := 5000000) -dsimp only [↓gp, gq, reduceCtorEq, Nat.reduceEqDiff, Nat.reduceLT, Nat.reduceLeDiff, Nat.reduceAdd, Nat.reduceMul, Nat.reduceSub, Nat.reduceBEq, Int.reduceToNat, Int.reduceLE, Int.reduceLT, Int.reduceNeg, Nat.reduceMod, sid_ne1, sid_ne2, sid_inj, sid_mod, gT, TK.isInt, TK.agg, Array.toList, h2a, r2a, h7a, r7a, r58a, h4a, r13a, h6a, h8a, r30a, h9a, sL_length]
    have hf1 : facs (ps.take 1) = [((setV (ps.getD 0 ⟨#[]⟩) (ps.getD 0 ⟨#[]⟩).size : Nat) : Int)] := facs_take hlt
    exact again_of ((1, u + 1, .own 58 (u + 1), .sli 3 1 false (iL (facs (ps.take 1))), v, y, z)) (by refine ⟨?_, ?_, ?_, ?_, ?_, ?_, ?_, ?_, ?_, ?_, ?_, ⟨by omega, Or.inr ⟨by omega, rfl, rfl⟩⟩⟩ <;> (first | (simp (maxSteps := 5000000) -dsimp only [gr, Nat.reduceEqDiff, Nat.reduceLT, Nat.reduceAdd, Nat.reduceMod, Nat.reduceBEq, sid_mod, sid_ne1, sid_ne2, sid_inj, h2a, r2a, h7a, r7a, r58a, h4a, r13a, h6a, h8a, r30a, h9a, hf1]; first | done | rfl | (simp; done)) | assumption | rfl)) (by first | omega | (simp only; omega) | (dsimp only; omega) | (show _ < _; simp; omega))
  · simp (maxSteps := 5000000) -dsimp only [↓gp, gq, reduceCtorEq, Nat.reduceEqDiff, Nat.reduceLT, Nat.reduceLeDiff, Nat.reduceAdd, Nat.reduceMul, Nat.reduceSub, Nat.reduceBEq, Int.reduceToNat, Int.reduceLE, Int.reduceLT, Int.reduceNeg, Nat.reduceMod, sid_ne1, sid_ne2, sid_inj, sid_mod, gT, TK.isInt, TK.agg, Array.toList, h2a, r2a, h7a, r7a, r58a, h4a, r13a, h6a, h8a, r30a, h9a, sL_length, iL_length, hfl, hr1, h.full]
    refine ⟨fun hlt => ⟨by omega, hlt, hlt, askK_of (c_spec_ParseSet _ (h.sets _ (getD_mem ⟨#[]⟩ hlt))) ?_⟩, fun hge => ?_⟩
    · simp (maxSteps := 5000000) -dsimp only [↓gp, gq, reduceCtorEq, Nat.reduceEqDiff, Nat.reduceLT, Nat.reduceLeDiff, Nat.reduceAdd, Nat.reduceMul, Nat.reduceSub, Nat.reduceBEq, Int.reduceToNat, Int.reduceLE, Int.reduceLT, Int.reduceNeg, Nat.reduceMod, sid_ne1, sid_ne2, sid_inj, sid_mod, gT, TK.isInt, TK.agg, Array.toList, h2a, r2a, h7a, r7a, r58a, h4a, r13a, h6a, h8a, r30a, h9a, sL_length, hfl]
      have hpl := h.plen
      refine ⟨by omega, ?_⟩
      exact again_of ((k + 1, u + 1, .own 58 (u + 1), .sli 3 1 false (iL (facs (ps.take (k + 1)))), v, y, z)) (by refine ⟨?_, ?_, ?_, ?_, ?_, ?_, ?_, ?_, ?_, ?_, ?_, ⟨by omega, Or.inr ⟨by omega, rfl, rfl⟩⟩⟩ <;> (first | (simp (maxSteps := 5000000) -dsimp only [gr, Nat.reduceEqDiff, Nat.reduceLT, Nat.reduceAdd, Nat.reduceMod, Nat.reduceBEq, sid_mod, sid_ne1, sid_ne2, sid_inj, h2a, r2a, h7a, r7a, r58a, h4a, r13a, h6a, h8a, r30a, h9a, facs_take hlt, wrap_nat hlt (by omega)]; first | done | rfl | (simp; done)) | assumption | rfl)) (by first | omega | (simp only; omega) | (dsimp only; omega) | (show _ < _; simp; omega))
    · obtain rfl : k = ps.length := by omega
      rw [List.take_length]
      have hcx := isCx_yes h.cx
      refine askK_of (c_spec_IsComplex n (facs ps)) ?_
      simp (maxSteps := 5000000) -dsimp only [↓gp, gq, reduceCtorEq, Nat.reduceEqDiff, Nat.reduceLT, Nat.reduceLeDiff, Nat.reduceAdd, Nat.reduceMul, Nat.reduceSub, Nat.reduceBEq, Int.reduceToNat, Int.reduceLE, Int.reduceLT, Int.reduceNeg, Nat.reduceMod, sid_ne1, sid_ne2, sid_inj, sid_mod, gT, TK.isInt, TK.agg, Array.toList, h2a, r2a, h7a, r7a, r58a, h4a, r13a, h6a, h8a, r30a, h9a, hcx, hfl, List.take_length]
end Go.Proofs.Ytlapkhmehcnjeaa

namespace Go.Proofs.Ytlapkhmehcnjeaa
open Go.Abs
set_option linter.unusedSimpArgs false
set_option linter.unusedVariables false

def zeros (n : Nat) : List Int := List.replicate n 0
theorem c_impl_emptyTable (n : Nat) (hn : n ≤ 100) : AC Try.prog 74 [int n] (.tb 22 3 (List.replicate (n + 1) (iL (zeros (n + 1))))) := by
  refine AC.go (rs := [.tmp 2]) T_ok mixed Try.func74 rfl rfl rfl (by kernel_rfl) fun hl => ?_
  have hw : IntKind.i64.wrap ((n : Int) + 1) = ((n + 1 : Nat) : Int) := by rw [wrap_id (by omega) (by omega)]; rfl
  simp (maxSteps := 5000000) -dsimp only [↓gp, gq, reduceCtorEq, Nat.reduceEqDiff, Nat.reduceLT, Nat.reduceLeDiff, Nat.reduceAdd, Nat.reduceMul, Nat.reduceSub, Nat.reduceBEq, Int.reduceToNat, Int.reduceLE, Int.reduceLT, Int.reduceNeg, Nat.reduceMod, sid_ne1, sid_ne2, sid_inj, sid_mod, gT, TK.isInt, TK.agg, Array.toList, hw, Int.toNat_natCast]
  refine ⟨by omega, by omega, ?_⟩
  refine loop_wk (fun (i : Nat) s => s.sl 0 = int n ∧ s.sl 3 = .own 7 1 ∧ s.rw 7 = ⟨1, .tab 22 (tabC 7 (n + 1) i)⟩ ∧ s.sl 9 = int (n + 1 : Nat) ∧ s.sl 10 = int i ∧ (i ≤ n + 1 ∧ (∀ j, j < i → s.rw (sid 7 j) = ⟨1, .sli 3 1 false (iL (zeros (n + 1)))⟩) ∧ ∀ j, i ≤ j → s.rw (sid 7 j) = ⟨0, .dead⟩)) (fun i => n + 1 - i) (0) (Wk.tab (k := 7) (v := 1) (e := 22) (c := List.replicate (n + 1) (.v (.slice none 0 0))) (by simp (maxSteps := 5000000) -dsimp only [gr, Nat.reduceEqDiff, Nat.reduceLT, Nat.reduceAdd, Nat.reduceMod, Nat.reduceBEq, sid_mod, sid_ne1, sid_ne2, sid_inj]) (plain_nils _)) (by refine ⟨?_, ?_, ?_, ?_, ?_, ⟨by simp, fun j h => absurd h (by omega), fun j _ => by simp (maxSteps := 5000000) -dsimp only [gr, Nat.reduceEqDiff, Nat.reduceLT, Nat.reduceAdd, Nat.reduceMod, Nat.reduceBEq, sid_mod, sid_ne1, sid_ne2, sid_inj]⟩⟩ <;> (first | (simp (maxSteps := 5000000) -dsimp only [gr, Nat.reduceEqDiff, Nat.reduceLT, Nat.reduceAdd, Nat.reduceMod, Nat.reduceBEq, sid_mod, sid_ne1, sid_ne2, sid_inj, ← tabC_zero]; first | done | rfl | (simp; done)) | assumption | rfl)) ?_
  intro i sa ⟨h0a, h3a, r7a, h9a, h10a, hIa⟩
  obtain ⟨hi, hlo, hhi⟩ := hIa
  simp (maxSteps := 5000000) -dsimp only [↓gp, gq, reduceCtorEq, Nat.reduceEqDiff, Nat.reduceLT, Nat.reduceLeDiff, Nat.reduceAdd, Nat.reduceMul, Nat.reduceSub, Nat.reduceBEq, Int.reduceToNat, Int.reduceLE, Int.reduceLT, Int.reduceNeg, Nat.reduceMod, sid_ne1, sid_ne2, sid_inj, sid_mod, gT, TK.isInt, TK.agg, Array.toList, h0a, h3a, r7a, h9a, h10a, hw, tabC_length, Int.toNat_natCast]
  refine ⟨fun h => ⟨by omega, by omega, h, by omega, ?_⟩, fun h => ?_⟩
  · exact again_wk (i + 1) (Wk.ren (d := 17) (k := 7) (k' := sid 7 i) (v := (sa.rw 17).ver + 1) (vk := 1) (e := 3) (et := 22) (sz := 1) (c := iL (zeros (n + 1))) (cs := spl (tabC 7 (n + 1) i) i [.own 17 ((sa.rw 17).ver + 1)]) (cs' := tabC 7 (n + 1) (i + 1)) (by simp (maxSteps := 5000000) -dsimp only [gr, Nat.reduceEqDiff, Nat.reduceLT, Nat.reduceAdd, Nat.reduceMod, Nat.reduceBEq, sid_mod, sid_ne1, sid_ne2, sid_inj, zeros]) (by simp (maxSteps := 5000000) -dsimp only [gr, Nat.reduceEqDiff, Nat.reduceLT, Nat.reduceAdd, Nat.reduceMod, Nat.reduceBEq, sid_mod, sid_ne1, sid_ne2, sid_inj, h0a, h3a, r7a, h9a, h10a]) (by simp (maxSteps := 5000000) -dsimp only [gr, Nat.reduceEqDiff, Nat.reduceLT, Nat.reduceAdd, Nat.reduceMod, Nat.reduceBEq, sid_mod, sid_ne1, sid_ne2, sid_inj, hhi i (Nat.le_refl _)]) (by decide) (tabC_ren h)) (by refine ⟨?_, ?_, ?_, ?_, ?_, ⟨by omega, fun j hj => (by
      by_cases e : j = i
      · subst e; simp (maxSteps := 5000000) -dsimp only [gr, Nat.reduceEqDiff, Nat.reduceLT, Nat.reduceAdd, Nat.reduceMod, Nat.reduceBEq, sid_mod, sid_ne1, sid_ne2, sid_inj]
      · simp (maxSteps := 5000000) -dsimp only [gr, Nat.reduceEqDiff, Nat.reduceLT, Nat.reduceAdd, Nat.reduceMod, Nat.reduceBEq, sid_mod, sid_ne1, sid_ne2, sid_inj, e, hlo j (by omega)]), fun j hj => (by
      have e : ¬ j = i := by omega
      simp (maxSteps := 5000000) -dsimp only [gr, Nat.reduceEqDiff, Nat.reduceLT, Nat.reduceAdd, Nat.reduceMod, Nat.reduceBEq, sid_mod, sid_ne1, sid_ne2, sid_inj, e, hhi j (by omega)])⟩⟩ <;> (first | (simp (maxSteps := 5000000) -dsimp only [gr, Nat.reduceEqDiff, Nat.reduceLT, Nat.reduceAdd, Nat.reduceMod, Nat.reduceBEq, sid_mod, sid_ne1, sid_ne2, sid_inj, h0a, h3a, r7a, h9a, h10a, wrap_nat h (by omega)]; first | done | rfl | (simp; done)) | assumption | rfl)) (by first | omega | (simp only; omega) | (dsimp only; omega) | (show _ < _; simp; omega))
  · obtain rfl : i = n + 1 := by omega
    refine out2_tab (n := n + 1) (by decide) (by omega) (by rw [r7a, tabC_end]) (by simp) fun j hj => ?_
    rw [hlo j hj]
    simp [List.getD, hj]
end Go.Proofs.Ytlapkhmehcnjeaa

namespace Go.Proofs.Ytlapkhmehcnjeaa
open Go.Abs
set_option linter.unusedSimpArgs false
set_option linter.unusedVariables false

theorem zeroM_map (m : Nat) : List.replicate (m + 1) (iL (zeros (m + 1))) = (List.replicate (m + 1) (List.replicate (m + 1) (0 : Int))).map iL := by simp [zeros]
theorem c_impl_BettiTable (n : Int) (xs : List Int) (p : Int) : AC Try.prog 39 [.ag [int n, ints xs], int p] (.tb 22 3 ((betR n xs p).map iL)) := by
  refine AC.go (rs := [.tmp 4]) T_ok mixed Try.func39 rfl rfl rfl (by kernel_rfl) fun hl => ?_
  simp only [lens_cons, lens_nil, and_true, lens2_ag2, lens1_v, lens1_iL, true_and] at hl
  simp (maxSteps := 5000000) -dsimp only [↓gp, gq, reduceCtorEq, Nat.reduceEqDiff, Nat.reduceLT, Nat.reduceLeDiff, Nat.reduceAdd, Nat.reduceMul, Nat.reduceSub, Nat.reduceBEq, Int.reduceToNat, Int.reduceLE, Int.reduceLT, Int.reduceNeg, Nat.reduceMod, sid_ne1, sid_ne2, sid_inj, sid_mod, gT, TK.isInt, TK.agg, Array.toList]
  refine askK_of (c_impl_IsComplex n xs) ?_
  simp (maxSteps := 5000000) -dsimp only [↓gp, gq, reduceCtorEq, Nat.reduceEqDiff, Nat.reduceLT, Nat.reduceLeDiff, Nat.reduceAdd, Nat.reduceMul, Nat.reduceSub, Nat.reduceBEq, Int.reduceToNat, Int.reduceLE, Int.reduceLT, Int.reduceNeg, Nat.reduceMod, sid_ne1, sid_ne2, sid_inj, sid_mod, gT, TK.isInt, TK.agg, Array.toList]
  refine ⟨fun hc => ⟨fun h0 => askK_of (c_impl_IsFieldPrime p) ?_, fun h0 => ?_⟩, fun hc => ?_⟩
  · have hcx : isCx n xs = true := by simpa using hc
    have hh : hasF n xs = true := hasF_iff.2 ⟨hcx, by simp at h0; exact List.length_pos_iff.2 h0⟩
    simp (maxSteps := 5000000) -dsimp only [↓gp, gq, reduceCtorEq, Nat.reduceEqDiff, Nat.reduceLT, Nat.reduceLeDiff, Nat.reduceAdd, Nat.reduceMul, Nat.reduceSub, Nat.reduceBEq, Int.reduceToNat, Int.reduceLE, Int.reduceLT, Int.reduceNeg, Nat.reduceMod, sid_ne1, sid_ne2, sid_inj, sid_mod, gT, TK.isInt, TK.agg, Array.toList]
    refine ⟨fun hp => ?_, fun hp => ?_⟩
    · rw [betR_no (fun h => by rw [h.2] at hp; cases hp)]
      exact out2_tb0 (by simp (maxSteps := 5000000) -dsimp only [gr, Nat.reduceEqDiff, Nat.reduceLT, Nat.reduceAdd, Nat.reduceMod, Nat.reduceBEq, sid_mod, sid_ne1, sid_ne2, sid_inj]) (by decide)
    · have hp : isP p = true := by simpa using hp
      obtain ⟨h1, h6, _⟩ := isCx_iff.1 hcx
      have hb : betR n xs p = betT (faceB xs) p n.toNat := if_pos ⟨hh, hp⟩
      rw [hb]
      have hxo := cx_ok hcx
      have hxl := cx_len hcx
      obtain ⟨m, rfl⟩ : ∃ m : Nat, n = m := ⟨n.toNat, by omega⟩
      rw [Int.toNat_natCast]
      have h64 := two_pow_le (m := m) (by omega)
      have hsh : ishl .i64 1 (m : Int) = ((2 ^ m : Nat) : Int) := ishl_small (by omega)
      have hun : IntKind.u64.wrap (m : Int) = (m : Int) := uwrap_id (by omega)
      refine askK_of (c_impl_emptyTable m (by omega)) ?_
      rw [zeroM_map]
      simp (maxSteps := 5000000) -dsimp only [↓gp, gq, reduceCtorEq, Nat.reduceEqDiff, Nat.reduceLT, Nat.reduceLeDiff, Nat.reduceAdd, Nat.reduceMul, Nat.reduceSub, Nat.reduceBEq, Int.reduceToNat, Int.reduceLE, Int.reduceLT, Int.reduceNeg, Nat.reduceMod, sid_ne1, sid_ne2, sid_inj, sid_mod, gT, TK.isInt, TK.agg, Array.toList]
      refine askK_of (c_impl_facesIn _ xs hxo) ?_
      simp (maxSteps := 5000000) -dsimp only [↓gp, gq, reduceCtorEq, Nat.reduceEqDiff, Nat.reduceLT, Nat.reduceLeDiff, Nat.reduceAdd, Nat.reduceMul, Nat.reduceSub, Nat.reduceBEq, Int.reduceToNat, Int.reduceLE, Int.reduceLT, Int.reduceNeg, Nat.reduceMod, sid_ne1, sid_ne2, sid_inj, sid_mod, gT, TK.isInt, TK.agg, Array.toList]
      refine loop_of (fun (w : Nat) s => s.sl 1 = int p ∧ s.sl 2 = .ref 2 1 0 ∧ s.rw 2 = ⟨1, .box 24 [int (m : Nat), ints xs]⟩ ∧ s.sl 5 = .own 27 1 ∧ s.sl 6 = u64 (maskF (faceB xs) 64 : Nat) ∧ s.sl 7 = int w ∧ (w ≤ 2 ^ m ∧ TabI s.rw 27 1 22 3 (List.range (m + 1)) (betP (faceB xs) p m w))) (fun w => 2 ^ m - w) (0) (by refine ⟨?_, ?_, ?_, ?_, ?_, ?_, ⟨Nat.zero_le _, TabI.adopt (d := 27) (by simp only [put_rw]; rfl) (fun x => by simp only [put_rw]; rfl) (fun i hi => by simp (maxSteps := 5000000) -dsimp only [gr, Nat.reduceEqDiff, Nat.reduceLT, Nat.reduceAdd, Nat.reduceMod, Nat.reduceBEq, sid_mod, sid_ne1, sid_ne2, sid_inj]) (by simp (maxSteps := 5000000) -dsimp only [gr, Nat.reduceEqDiff, Nat.reduceLT, Nat.reduceAdd, Nat.reduceMod, Nat.reduceBEq, sid_mod, sid_ne1, sid_ne2, sid_inj]) List.length_replicate⟩⟩ <;> (first | (simp (maxSteps := 5000000) -dsimp only [gr, Nat.reduceEqDiff, Nat.reduceLT, Nat.reduceAdd, Nat.reduceMod, Nat.reduceBEq, sid_mod, sid_ne1, sid_ne2, sid_inj]; first | done | rfl | (simp; done)) | assumption | rfl)) ?_
      intro w sb ⟨h1b, h2b, r2b, h5b, h6b, h7b, hIb⟩
      obtain ⟨hw, hb2⟩ := hIb
      simp (maxSteps := 5000000) -dsimp only [↓gp, gq, reduceCtorEq, Nat.reduceEqDiff, Nat.reduceLT, Nat.reduceLeDiff, Nat.reduceAdd, Nat.reduceMul, Nat.reduceSub, Nat.reduceBEq, Int.reduceToNat, Int.reduceLE, Int.reduceLT, Int.reduceNeg, Nat.reduceMod, sid_ne1, sid_ne2, sid_inj, sid_mod, gT, TK.isInt, TK.agg, Array.toList, h1b, h2b, r2b, h5b, h6b, h7b, hsh, hun]
      refine ⟨fun h2 => askK_of (c_impl_SizeOf _) ?_, fun h2 => ?_⟩
      · have hw64 : w < 64 := by omega
        have hz := szOf_nat hw64
        simp (maxSteps := 5000000) -dsimp only [↓gp, gq, reduceCtorEq, Nat.reduceEqDiff, Nat.reduceLT, Nat.reduceLeDiff, Nat.reduceAdd, Nat.reduceMul, Nat.reduceSub, Nat.reduceBEq, Int.reduceToNat, Int.reduceLE, Int.reduceLT, Int.reduceNeg, Nat.reduceMod, sid_ne1, sid_ne2, sid_inj, sid_mod, gT, TK.isInt, TK.agg, Array.toList, h1b, h2b, r2b, h5b, h6b, h7b, hsh, hun, hz]
        refine askK_of (c_impl_inducedIn (faceB xs) w hw64) ?_
        simp (maxSteps := 5000000) -dsimp only [↓gp, gq, reduceCtorEq, Nat.reduceEqDiff, Nat.reduceLT, Nat.reduceLeDiff, Nat.reduceAdd, Nat.reduceMul, Nat.reduceSub, Nat.reduceBEq, Int.reduceToNat, Int.reduceLE, Int.reduceLT, Int.reduceNeg, Nat.reduceMod, sid_ne1, sid_ne2, sid_inj, sid_mod, gT, TK.isInt, TK.agg, Array.toList, h1b, h2b, r2b, h5b, h6b, h7b, hsh, hun, hz]
        refine askK_of (c_impl_holesIn _ p hp) ?_
        have epart : (fun t => faceB xs t && subB w t) = partF (faceB xs) w := rfl
        rw [epart]
        have hpn := pop_le_n (n := m) (by omega) h2
        have hsm := hol_small (partF (faceB xs) w) p
        have hdl := dimN_le (partF (faceB xs) w)
        have hhl := holF_length (partF (faceB xs) w) p
        generalize hhs : holF (partF (faceB xs) w) p = hs at *
        have hsq := fun k => addH_sq (j := popN w) (betP_sq (faceB xs) p m w) hsm k
        simp (maxSteps := 5000000) -dsimp only [↓gp, gq, reduceCtorEq, Nat.reduceEqDiff, Nat.reduceLT, Nat.reduceLeDiff, Nat.reduceAdd, Nat.reduceMul, Nat.reduceSub, Nat.reduceBEq, Int.reduceToNat, Int.reduceLE, Int.reduceLT, Int.reduceNeg, Nat.reduceMod, sid_ne1, sid_ne2, sid_inj, sid_mod, gT, TK.isInt, TK.agg, Array.toList, h1b, h2b, r2b, h5b, h6b, h7b, hsh, hun]
        refine loop_of (fun (zc : Nat × Nat) s => match zc with | (k, u) => s.sl 1 = int p ∧ s.sl 2 = .ref 2 1 0 ∧ s.rw 2 = ⟨1, .box 24 [int (m : Nat), ints xs]⟩ ∧ s.sl 5 = .own 27 1 ∧ s.sl 6 = u64 (maskF (faceB xs) 64 : Nat) ∧ s.sl 7 = int w ∧ s.sl 8 = int (popN w : Nat) ∧ s.sl 44 = .own 44 u ∧ s.rw 44 = ⟨u, .sli 3 1 false (iL hs)⟩ ∧ s.sl 45 = int hs.length ∧ s.sl 46 = int k ∧ (k ≤ hs.length ∧ TabI s.rw 27 1 22 3 (List.range (m + 1)) (addH (betP (faceB xs) p m w) (popN w) hs k))) (fun (k, u) => hs.length - k) ((0, (sb.rw 44).ver + 1)) (by refine ⟨?_, ?_, ?_, ?_, ?_, ?_, ?_, ?_, ?_, ?_, ?_, ⟨by omega, hb2.same (by simp (maxSteps := 5000000) -dsimp only [gr, Nat.reduceEqDiff, Nat.reduceLT, Nat.reduceAdd, Nat.reduceMod, Nat.reduceBEq, sid_mod, sid_ne1, sid_ne2, sid_inj]) (fun x => by simp (maxSteps := 5000000) -dsimp only [gr, Nat.reduceEqDiff, Nat.reduceLT, Nat.reduceAdd, Nat.reduceMod, Nat.reduceBEq, sid_mod, sid_ne1, sid_ne2, sid_inj])⟩⟩ <;> (first | (simp (maxSteps := 5000000) -dsimp only [gr, Nat.reduceEqDiff, Nat.reduceLT, Nat.reduceAdd, Nat.reduceMod, Nat.reduceBEq, sid_mod, sid_ne1, sid_ne2, sid_inj, h1b, h2b, r2b, h5b, h6b, h7b]; first | done | rfl | (simp; done)) | assumption | rfl)) ?_
        intro (k, u) sc ⟨h1c, h2c, r2c, h5c, h6c, h7c, h8c, h44c, r44c, h45c, h46c, hIc⟩
        obtain ⟨hk, hb3⟩ := hIc
        by_cases h3 : k < hs.length
        · by_cases h4 : k ≤ popN w
          · have hsq := hsq k
            have hs1 := hsq.small (popN w - k) (popN w)
            have hs2 := hsm k
            have hml := hsq.len
            have hrl := hsq.row (popN w - k) (by omega)
            have hadd : addH (betP (faceB xs) p m w) (popN w) hs (k + 1) = addAt (addH (betP (faceB xs) p m w) (popN w) hs k) (popN w - k) (popN w) (hs.getD k 0) := by rw [addH, if_pos h4]
            generalize addH (betP (faceB xs) p m w) (popN w) hs k = M at *
            have e1 : (List.range (m + 1)).getD (popN w - k) 0 = popN w - k := rangeD (by omega)
            have hrow := hb3.row (i := popN w - k) (by omega)
            rw [e1] at hrow
            have hw1 : IntKind.i64.wrap ((popN w : Int) - (k : Int)) = ((popN w - k : Nat) : Int) := by rw [wrap_id (by omega) (by omega)]; omega
            have hw2 : IntKind.i64.wrap ((M.getD (popN w - k) []).getD (popN w) 0 + hs.getD k 0) = (M.getD (popN w - k) []).getD (popN w) 0 + hs.getD k 0 := wrap_id (by omega) (by omega)
            simp (maxSteps := 5000000) -dsimp only [↓gp, gq, reduceCtorEq, Nat.reduceEqDiff, Nat.reduceLT, Nat.reduceLeDiff, Nat.reduceAdd, Nat.reduceMul, Nat.reduceSub, Nat.reduceBEq, Int.reduceToNat, Int.reduceLE, Int.reduceLT, Int.reduceNeg, Nat.reduceMod, sid_ne1, sid_ne2, sid_inj, sid_mod, gT, TK.isInt, TK.agg, Array.toList, h1c, h2c, r2c, h5c, h6c, h7c, h8c, h44c, r44c, h45c, h46c, hw1, hb3.top, ld_cellsT, e1, hrow, hrl, cellsT_length, List.length_range, hw2]
            refine ⟨fun _ => ⟨h3, h3, fun _ => ⟨by omega, by omega, by omega, by omega, by omega, by omega, ?_⟩, fun h => absurd h4 h⟩, fun h => absurd h3 h⟩
            exact again_of ((k + 1, u)) (by refine ⟨?_, ?_, ?_, ?_, ?_, ?_, ?_, ?_, ?_, ?_, ?_, ⟨by dsimp only; omega, by
                dsimp only
                rw [hadd]
                exact hb3.set (i := popN w - k) (by omega) (by simp (maxSteps := 5000000) -dsimp only [gr, Nat.reduceEqDiff, Nat.reduceLT, Nat.reduceAdd, Nat.reduceMod, Nat.reduceBEq, sid_mod, sid_ne1, sid_ne2, sid_inj]) (by simp (maxSteps := 5000000) -dsimp only [gr, Nat.reduceEqDiff, Nat.reduceLT, Nat.reduceAdd, Nat.reduceMod, Nat.reduceBEq, sid_mod, sid_ne1, sid_ne2, sid_inj, e1, h1c, h2c, r2c, h5c, h6c, h7c, h8c, h44c, r44c, h45c, h46c, hb3.top, hrow]) (fun x hx => by simp (maxSteps := 5000000) -dsimp only [gr, Nat.reduceEqDiff, Nat.reduceLT, Nat.reduceAdd, Nat.reduceMod, Nat.reduceBEq, sid_mod, sid_ne1, sid_ne2, sid_inj, e1 ▸ hx])⟩⟩ <;> (first | (simp (maxSteps := 5000000) -dsimp only [gr, Nat.reduceEqDiff, Nat.reduceLT, Nat.reduceAdd, Nat.reduceMod, Nat.reduceBEq, sid_mod, sid_ne1, sid_ne2, sid_inj, h1c, h2c, r2c, h5c, h6c, h7c, h8c, h44c, r44c, h45c, h46c, wrap_nat h3 (by omega)]; first | done | rfl | (simp; done)) | assumption | rfl)) (by first | omega | (simp only; omega) | (dsimp only; omega) | (show _ < _; simp; omega))
          · have hadd : addH (betP (faceB xs) p m w) (popN w) hs (k + 1) = addH (betP (faceB xs) p m w) (popN w) hs k := by rw [addH, if_neg h4]
            simp (maxSteps := 5000000) -dsimp only [↓gp, gq, reduceCtorEq, Nat.reduceEqDiff, Nat.reduceLT, Nat.reduceLeDiff, Nat.reduceAdd, Nat.reduceMul, Nat.reduceSub, Nat.reduceBEq, Int.reduceToNat, Int.reduceLE, Int.reduceLT, Int.reduceNeg, Nat.reduceMod, sid_ne1, sid_ne2, sid_inj, sid_mod, gT, TK.isInt, TK.agg, Array.toList, h1c, h2c, r2c, h5c, h6c, h7c, h8c, h44c, r44c, h45c, h46c]
            refine ⟨fun _ => ⟨h3, h3, fun h => absurd h h4, fun _ => ?_⟩, fun h => absurd h3 h⟩
            exact again_of ((k + 1, u)) (by refine ⟨?_, ?_, ?_, ?_, ?_, ?_, ?_, ?_, ?_, ?_, ?_, ⟨by dsimp only; omega, by
                dsimp only
                rw [hadd]
                exact hb3.same (by simp (maxSteps := 5000000) -dsimp only [gr, Nat.reduceEqDiff, Nat.reduceLT, Nat.reduceAdd, Nat.reduceMod, Nat.reduceBEq, sid_mod, sid_ne1, sid_ne2, sid_inj]) (fun x => by simp (maxSteps := 5000000) -dsimp only [gr, Nat.reduceEqDiff, Nat.reduceLT, Nat.reduceAdd, Nat.reduceMod, Nat.reduceBEq, sid_mod, sid_ne1, sid_ne2, sid_inj])⟩⟩ <;> (first | (simp (maxSteps := 5000000) -dsimp only [gr, Nat.reduceEqDiff, Nat.reduceLT, Nat.reduceAdd, Nat.reduceMod, Nat.reduceBEq, sid_mod, sid_ne1, sid_ne2, sid_inj, h1c, h2c, r2c, h5c, h6c, h7c, h8c, h44c, r44c, h45c, h46c, wrap_nat h3 (by omega)]; first | done | rfl | (simp; done)) | assumption | rfl)) (by first | omega | (simp only; omega) | (dsimp only; omega) | (show _ < _; simp; omega))
        · have e : addH (betP (faceB xs) p m w) (popN w) hs k = betP (faceB xs) p m (w + 1) := by
            have e0 : betP (faceB xs) p m (w + 1) = addH (betP (faceB xs) p m w) (popN w) (holF (partF (faceB xs) w) p) (dimN (partF (faceB xs) w)) := rfl
            rw [e0, ← hhl, hhs, show k = hs.length by omega]
          rw [e] at hb3
          simp (maxSteps := 5000000) -dsimp only [↓gp, gq, reduceCtorEq, Nat.reduceEqDiff, Nat.reduceLT, Nat.reduceLeDiff, Nat.reduceAdd, Nat.reduceMul, Nat.reduceSub, Nat.reduceBEq, Int.reduceToNat, Int.reduceLE, Int.reduceLT, Int.reduceNeg, Nat.reduceMod, sid_ne1, sid_ne2, sid_inj, sid_mod, gT, TK.isInt, TK.agg, Array.toList, h1c, h2c, r2c, h5c, h6c, h7c, h8c, h44c, r44c, h45c, h46c]
          refine ⟨fun h => absurd h h3, fun _ => ?_⟩
          exact again_of (w + 1) (by refine ⟨?_, ?_, ?_, ?_, ?_, ?_, ⟨by omega, hb3.same (by simp (maxSteps := 5000000) -dsimp only [gr, Nat.reduceEqDiff, Nat.reduceLT, Nat.reduceAdd, Nat.reduceMod, Nat.reduceBEq, sid_mod, sid_ne1, sid_ne2, sid_inj]) (fun x => by simp (maxSteps := 5000000) -dsimp only [gr, Nat.reduceEqDiff, Nat.reduceLT, Nat.reduceAdd, Nat.reduceMod, Nat.reduceBEq, sid_mod, sid_ne1, sid_ne2, sid_inj])⟩⟩ <;> (first | (simp (maxSteps := 5000000) -dsimp only [gr, Nat.reduceEqDiff, Nat.reduceLT, Nat.reduceAdd, Nat.reduceMod, Nat.reduceBEq, sid_mod, sid_ne1, sid_ne2, sid_inj, h1b, h2b, r2b, h5b, h6b, h7b, h1c, h2c, r2c, h5c, h6c, h7c, h8c, h44c, r44c, h45c, h46c, wrap_nat h2 (by omega)]; first | done | rfl | (simp; done)) | assumption | rfl)) (by first | omega | (simp only; omega) | (dsimp only; omega) | (show _ < _; simp; omega))
      · have : w = 2 ^ m := by omega
        subst this
        exact out2_tabI hb2 (by decide) (fun j hj => by have := List.mem_range.1 hj; omega)
  · rw [betR_no (fun h => by have := (hasF_iff.1 h.1).2; simp at h0; rw [h0] at this; simp at this)]
    exact out2_tb0 (by simp (maxSteps := 5000000) -dsimp only [gr, Nat.reduceEqDiff, Nat.reduceLT, Nat.reduceAdd, Nat.reduceMod, Nat.reduceBEq, sid_mod, sid_ne1, sid_ne2, sid_inj]) (by decide)
  · rw [betR_no (fun h => by have := (hasF_iff.1 h.1).1; rw [this] at hc; cases hc)]
    exact out2_tb0 (by simp (maxSteps := 5000000) -dsimp only [gr, Nat.reduceEqDiff, Nat.reduceLT, Nat.reduceAdd, Nat.reduceMod, Nat.reduceBEq, sid_mod, sid_ne1, sid_ne2, sid_inj]) (by decide)
end Go.Proofs.Ytlapkhmehcnjeaa
