/- DERIVED by an AI agent. -/
import Derived.Test.YtmpjajhklilleaaDoorQ4
import Derived.Test.YtmpjajhklilleaaDoorQ1
import Derived.Test.YtmpjajhklilleaaDoorA14
import Derived.Test.YtmpjajhklilleaaDoorP1
namespace Go.Proofs.YtmpjajhklilleaaDoor
open Go.Abs
set_option linter.unusedSimpArgs false
set_option linter.unusedVariables false

theorem inF_map {xs : List Int} (hx : okS xs) {w : Nat} (hw : w < 64) (s : Nat) : inF (xs.map fun x => iand .i64 x (w : Int)) s = true ↔ ∃ x ∈ xs, x.toNat &&& w = s := by
  unfold inF
  rw [decide_eq_true_iff, List.mem_map]
  have key : ∀ x ∈ xs, iand .i64 x (w : Int) = ((x.toNat &&& w : Nat) : Int) := fun x h => by
    have := hx x h
    rw [← iand_nat (by omega) (by omega)]
    congr 1; omega
  exact ⟨fun ⟨x, h1, h2⟩ => ⟨x, h1, by rw [key x h1] at h2; omega⟩, fun ⟨x, h1, h2⟩ => ⟨x, h1, by rw [key x h1, h2]⟩⟩
noncomputable def insL (xs : List Int) (w : Nat) : List Int := ofN (extN (inF (xs.map fun x => iand .i64 x (w : Int))) true)
theorem faceB_ins {xs : List Int} (hx : okS xs) {w : Nat} (hw : w < 64) {t : Nat} (ht : t < 64) : faceB (insL xs w) t = partF (faceB xs) w t := by
  unfold insL partF
  rw [faceB_ext]
  refine Bool.eq_iff_iff.2 ⟨fun h => ?_, fun h => ?_⟩
  · obtain ⟨s, hs, h2⟩ := List.any_eq_true.1 h
    simp only [Bool.and_eq_true, beq_iff_eq] at h2
    obtain ⟨x, hx1, hx2⟩ := (inF_map hx hw s).1 h2.1
    have e1 : t &&& s = t := by rw [Nat.and_comm]; exact h2.2
    have e2 : s &&& x.toNat = s := by rw [← hx2, Nat.and_comm, ← Nat.and_assoc, Nat.and_self]
    have e3 : s &&& w = s := by rw [← hx2, Nat.and_assoc, Nat.and_self]
    rw [Bool.and_eq_true]
    refine ⟨faceB_iff.2 ⟨x, hx1, by rw [Nat.and_comm]; exact sub_trans e1 e2⟩, ?_⟩
    rw [beq_iff_eq, Nat.and_comm]; exact sub_trans e1 e3
  · rw [Bool.and_eq_true, beq_iff_eq] at h
    obtain ⟨x, hx1, hx2⟩ := faceB_iff.1 h.1
    have hlt : x.toNat &&& w < 64 := by
      have : x.toNat &&& w ≤ w := Nat.and_le_right
      omega
    refine List.any_eq_true.2 ⟨x.toNat &&& w, List.mem_range.2 hlt, ?_⟩
    rw [Bool.and_eq_true, beq_iff_eq]
    exact ⟨(inF_map hx hw _).2 ⟨x, hx1, rfl⟩, by rw [Nat.and_assoc, h.2, hx2]⟩
theorem ins_cx {n : Int} {xs : List Int} (h : isCx n xs = true) {w : Nat} (hw : w < 64) : isCx n (insL xs w) = true := by
  have hx := cx_ok h
  obtain ⟨h1, h6, hk⟩ := isCx_iff.1 h
  refine isCx_yes ⟨h1, h6, fun k hk2 => ?_⟩
  unfold insL at hk2 ⊢
  rw [ofN_length] at hk2
  have hpw := extN_pw (inF (xs.map fun x => iand .i64 x (w : Int))) true
  have hmem := fun i (hi : i < (extN (inF (xs.map fun x => iand .i64 x (w : Int))) true).length) => mem_extN.1 (getD_mem 0 hi)
  have hin := fun i (hi : i < (extN (inF (xs.map fun x => iand .i64 x (w : Int))) true).length) => (inF_map hx hw _).1 (hmem i hi).1.2
  generalize extN (inF (xs.map fun x => iand .i64 x (w : Int))) true = ys at *
  have hbef : ∀ i j, i < j → j < ys.length → befN (ys.getD i 0) (ys.getD j 0) := fun i j hij hj => by
    have := List.pairwise_iff_getElem.1 hpw i j (by omega) hj hij
    have a : ys.getD i 0 = ys[i]'(by omega) := by simp [List.getD, show i < ys.length by omega]
    have b : ys.getD j 0 = ys[j] := by simp [List.getD, hj]
    rw [a, b]; exact this
  refine ⟨?_, fun h0 => ?_, fun i hi => ?_⟩
  · obtain ⟨x, hx1, hx2⟩ := hin k hk2
    rw [ofN_getD hk2]
    obtain ⟨i, hi, rfl⟩ := mem_getD 0 hx1
    have := (hk i hi).1
    unfold inSet at this ⊢
    rw [decide_eq_true_iff] at this ⊢
    have hle : ys.getD k 0 ≤ (xs.getD i 0).toNat := by rw [← hx2]; exact Nat.and_le_left
    refine ⟨by omega, by omega, by omega, ?_⟩
    omega
  · rw [ofN_getD hk2, ofN_getD (by omega)]
    have hb := hbef (k - 1) k (by omega) hk2
    have := (hmem k hk2).1.1
    have := (hmem (k - 1) (by omega)).1.1
    unfold befS
    unfold befN at hb
    rw [szOf_nat (by omega), szOf_nat (by omega)]
    simp only [Bool.and_eq_true, decide_eq_true_iff]
    refine ⟨by omega, by omega, ?_⟩
    split
    · rw [decide_eq_true_iff]; omega
    · rw [decide_eq_true_iff]; omega
  · have hlti := (hmem i (by omega)).1.1
    have hltk := (hmem k hk2).1
    rw [ofN_getD hk2, ofN_getD (by omega), iand_nat (by omega) (by omega)]
    intro e
    have := extB_iff'.1 (hmem i (by omega)).2 (ys.getD k 0) hltk.1 hltk.2 (by omega)
    have hb := hbef i k hi hk2
    rw [this] at hb
    exact befN_irrefl hb
theorem cx_len {n : Int} {xs : List Int} (h : isCx n xs = true) : xs.length ≤ 64 := by
  have hn := cx_nodup (isCx_iff.1 h)
  have hx := cx_ok h
  have h2 : (xs.map Int.toNat).Nodup := by
    refine List.Pairwise.map _ (fun a b => ?_) (List.Pairwise.imp_of_mem (S := fun a b => 0 ≤ a ∧ 0 ≤ b ∧ a ≠ b) (fun ha hb hab => ⟨(hx _ ha).1, (hx _ hb).1, hab⟩) hn)
    intro ⟨q1, q2, q3⟩ e
    omega
  refine Classical.byContradiction fun hc => ?_
  have := (perm_of_sub (m := List.range 64) h2 (fun x hx' => ?_) (by simp; omega)).length_eq
  · simp at this; omega
  · obtain ⟨y, hy, rfl⟩ := List.mem_map.1 hx'
    have := hx y hy
    exact List.mem_range.2 (by omega)
theorem facF_ins {n : Int} {xs : List Int} (h : isCx n xs = true) {w : Nat} (hw : w < 64) (t : Nat) (ht : t < 64) : facF n (insL xs w) t = partF (faceB xs) w t := by
  unfold facF
  rw [ins_cx h hw, faceB_ins (cx_ok h) hw ht]; rfl
theorem hol_ins {n : Int} {xs : List Int} (h : isCx n xs = true) {w : Nat} (hw : w < 64) {p : Int} (hp : isP p = true) : holR (facF n (insL xs w)) p = holF (partF (faceB xs) w) p := by
  unfold holR
  rw [if_pos hp]
  exact holF_congr p fun s hs => facF_ins h hw s hs
end Go.Proofs.YtmpjajhklilleaaDoor

namespace Go.Proofs.YtmpjajhklilleaaDoor
open Go.Abs
set_option linter.unusedSimpArgs false
set_option linter.unusedVariables false

noncomputable def betR (n : Int) (xs : List Int) (p : Int) : Mat := if hasF n xs = true ∧ isP p = true then betT (faceB xs) p n.toNat else []
theorem betR_no {n : Int} {xs : List Int} {p : Int} (h : ¬ (hasF n xs = true ∧ isP p = true)) : betR n xs p = [] := if_neg h
theorem rangeD {n i : Nat} (h : i < n) : (List.range n).getD i 0 = i := by simp [List.getD, h]
theorem repl_snoc {α : Type} (n : Nat) (a : α) : List.replicate n a ++ [a] = List.replicate (n + 1) a := by rw [List.replicate_succ']
theorem c_spec_BettiTable (n : Int) (xs : List Int) (p : Int) : AC Tryd.prog 28 [.ag [int n, ints xs], int p] (.tb 22 3 ((betR n xs p).map iL)) := by
  refine AC.go (rs := [.tmp 4]) T_ok mixed Tryd.func28 rfl rfl rfl (by kernel_rfl) fun hl => ?_
  simp only [lens_cons, lens_nil, and_true, lens2_ag2, lens1_v, lens1_iL, true_and] at hl
  simp (maxSteps := 5000000) -dsimp only [↓gp, gq, reduceCtorEq, Nat.reduceEqDiff, Nat.reduceLT, Nat.reduceLeDiff, Nat.reduceAdd, Nat.reduceMul, Nat.reduceSub, Nat.reduceBEq, Int.reduceToNat, Int.reduceLE, Int.reduceLT, Int.reduceNeg, Nat.reduceMod, sid_ne1, sid_ne2, sid_inj, sid_mod, gT, TK.isInt, TK.agg, Array.toList]
  refine askK_of (c_spec_DimOf n xs) ?_
  have hdt := dimR_test n xs
  simp (maxSteps := 5000000) -dsimp only [↓gp, gq, reduceCtorEq, Nat.reduceEqDiff, Nat.reduceLT, Nat.reduceLeDiff, Nat.reduceAdd, Nat.reduceMul, Nat.reduceSub, Nat.reduceBEq, Int.reduceToNat, Int.reduceLE, Int.reduceLT, Int.reduceNeg, Nat.reduceMod, sid_ne1, sid_ne2, sid_inj, sid_mod, gT, TK.isInt, TK.agg, Array.toList, hdt]
  refine ⟨fun hh => askK_of (c_spec_IsFieldPrime p) ?_, fun hh => ?_⟩
  · have hh : hasF n xs = true := by simpa using hh
    simp (maxSteps := 5000000) -dsimp only [↓gp, gq, reduceCtorEq, Nat.reduceEqDiff, Nat.reduceLT, Nat.reduceLeDiff, Nat.reduceAdd, Nat.reduceMul, Nat.reduceSub, Nat.reduceBEq, Int.reduceToNat, Int.reduceLE, Int.reduceLT, Int.reduceNeg, Nat.reduceMod, sid_ne1, sid_ne2, sid_inj, sid_mod, gT, TK.isInt, TK.agg, Array.toList]
    refine ⟨fun hp => ?_, fun hp => ?_⟩
    · rw [betR_no (fun h => by rw [h.2] at hp; cases hp)]
      exact out2_tb0 (by simp (maxSteps := 5000000) -dsimp only [gr, Nat.reduceEqDiff, Nat.reduceLT, Nat.reduceAdd, Nat.reduceMod, Nat.reduceBEq, sid_mod, sid_ne1, sid_ne2, sid_inj]) (by decide)
    · have hp : isP p = true := by simpa using hp
      have hcx := (hasF_iff.1 hh).1
      obtain ⟨h1, h6, _⟩ := isCx_iff.1 hcx
      have hb : betR n xs p = betT (faceB xs) p n.toNat := if_pos ⟨hh, hp⟩
      rw [hb]
      have hxo := cx_ok hcx
      have hxl := cx_len hcx
      obtain ⟨m, rfl⟩ : ∃ m : Nat, n = m := ⟨n.toNat, by omega⟩
      rw [Int.toNat_natCast]
      have h64 := two_pow_le (m := m) (by omega)
      have hsh : ishl .i64 1 (m : Int) = ((2 ^ m : Nat) : Int) := ishl_small (by omega)
      have hun : IntKind.u64.wrap (m : Int) = (m : Int) := uwrap_id (by omega)
      have hm1 : IntKind.i64.wrap ((m : Int) + 1) = ((m + 1 : Nat) : Int) := by rw [wrap_id (by omega) (by omega)]; rfl
      refine loop_gin (k := 11) (v := 1) (e := 22) (e2 := 3) (by simp (maxSteps := 5000000) -dsimp only [gr, Nat.reduceEqDiff, Nat.reduceLT, Nat.reduceAdd, Nat.reduceMod, Nat.reduceBEq, sid_mod, sid_ne1, sid_ne2, sid_inj]) (fun j => by simp (maxSteps := 5000000) -dsimp only [gr, Nat.reduceEqDiff, Nat.reduceLT, Nat.reduceAdd, Nat.reduceMod, Nat.reduceBEq, sid_mod, sid_ne1, sid_ne2, sid_inj]) (fun (i : Nat) s => s.sl 1 = int p ∧ s.sl 2 = .ref 2 1 0 ∧ s.rw 2 = ⟨1, .box 31 [int (m : Nat), ints xs]⟩ ∧ s.sl 5 = .own 11 (i + 1) ∧ s.sl 6 = int i ∧ (i ≤ m + 1 ∧ TabG s.rw 11 (i + 1) 22 3 i (List.replicate i (List.replicate (m + 1) 0)))) (fun i => m + 1 - i) (0) (fun sX htX hslX hoX => (by refine ⟨?_, ?_, ?_, ?_, ?_, ⟨by omega, htX⟩⟩ <;> (first | (simp (maxSteps := 5000000) -dsimp only [gr, Nat.reduceEqDiff, Nat.reduceLT, Nat.reduceAdd, Nat.reduceMod, Nat.reduceBEq, sid_mod, sid_ne1, sid_ne2, sid_inj, hslX, hoX]; first | done | rfl | (simp; done)) | assumption | rfl))) ?_
      intro i sa ⟨h1a, h2a, r2a, h5a, h6a, hIa⟩
      obtain ⟨hi, ht⟩ := hIa
      simp (maxSteps := 5000000) -dsimp only [↓gp, gq, reduceCtorEq, Nat.reduceEqDiff, Nat.reduceLT, Nat.reduceLeDiff, Nat.reduceAdd, Nat.reduceMul, Nat.reduceSub, Nat.reduceBEq, Int.reduceToNat, Int.reduceLE, Int.reduceLT, Int.reduceNeg, Nat.reduceMod, sid_ne1, sid_ne2, sid_inj, sid_mod, gT, TK.isInt, TK.agg, Array.toList, h1a, h2a, r2a, h5a, h6a, hm1, Int.toNat_natCast]
      refine ⟨fun h => ⟨by omega, by omega, ?_⟩, fun h => ?_⟩
      · refine orB_r ?_
        simp (maxSteps := 5000000) -dsimp only [↓gp, gq, reduceCtorEq, Nat.reduceEqDiff, Nat.reduceLT, Nat.reduceLeDiff, Nat.reduceAdd, Nat.reduceMul, Nat.reduceSub, Nat.reduceBEq, Int.reduceToNat, Int.reduceLE, Int.reduceLT, Int.reduceNeg, Nat.reduceMod, sid_ne1, sid_ne2, sid_inj, sid_mod, gT, TK.isInt, TK.agg, Array.toList, h1a, h2a, r2a, h5a, h6a, ht.top]
        refine ⟨by omega, ?_⟩
        exact again_grow0 (k := 11) (v := i + 1 + 1) (e := 22) (e2 := 3) (n := i) (d := 31) (vd := (sa.rw 31).ver + 1) (M := List.replicate i (List.replicate (m + 1) 0)) (r := List.replicate (m + 1) 0) (by simp (maxSteps := 5000000) -dsimp only [gr, Nat.reduceEqDiff, Nat.reduceLT, Nat.reduceAdd, Nat.reduceMod, Nat.reduceBEq, sid_mod, sid_ne1, sid_ne2, sid_inj, ht.top]) (by simp) (fun j hj => by simp (maxSteps := 5000000) -dsimp only [gr, Nat.reduceEqDiff, Nat.reduceLT, Nat.reduceAdd, Nat.reduceMod, Nat.reduceBEq, sid_mod, sid_ne1, sid_ne2, sid_inj, ht.row j hj]) (fun j hj => by simp (maxSteps := 5000000) -dsimp only [gr, Nat.reduceEqDiff, Nat.reduceLT, Nat.reduceAdd, Nat.reduceMod, Nat.reduceBEq, sid_mod, sid_ne1, sid_ne2, sid_inj, ht.rest j hj]) (by simp (maxSteps := 5000000) -dsimp only [gr, Nat.reduceEqDiff, Nat.reduceLT, Nat.reduceAdd, Nat.reduceMod, Nat.reduceBEq, sid_mod, sid_ne1, sid_ne2, sid_inj, hm1]) (by decide) (by decide) (i + 1) (fun sX htX hslX hoX => (by refine ⟨?_, ?_, ?_, ?_, ?_, ⟨by omega, (repl_snoc i _ ▸ htX : TabG _ _ _ _ _ _ _)⟩⟩ <;> (first | (simp (maxSteps := 5000000) -dsimp only [gr, Nat.reduceEqDiff, Nat.reduceLT, Nat.reduceAdd, Nat.reduceMod, Nat.reduceBEq, sid_mod, sid_ne1, sid_ne2, sid_inj, hslX, hoX, h1a, h2a, r2a, h5a, h6a, h1a, h2a, r2a, h5a, h6a, wrap_nat (show i < m + 1 by omega) (by omega)]; first | done | rfl | (simp; done)) | assumption | rfl))) (by first | omega | (simp only; omega) | (dsimp only; omega) | (show _ < _; simp; omega))
      · have : i = m + 1 := by omega
        subst this
        have htI := ht.done
        refine loop_of (fun (w : Nat) s => s.sl 1 = int p ∧ s.sl 2 = .ref 2 1 0 ∧ s.rw 2 = ⟨1, .box 31 [int (m : Nat), ints xs]⟩ ∧ s.sl 5 = .own 11 (m + 1 + 1) ∧ s.sl 7 = int w ∧ (w ≤ 2 ^ m ∧ TabI s.rw 11 (m + 1 + 1) 22 3 (List.range (m + 1)) (betP (faceB xs) p m w))) (fun w => 2 ^ m - w) (0) (by refine ⟨?_, ?_, ?_, ?_, ?_, ⟨Nat.zero_le _, htI.same (by simp (maxSteps := 5000000) -dsimp only [gr, Nat.reduceEqDiff, Nat.reduceLT, Nat.reduceAdd, Nat.reduceMod, Nat.reduceBEq, sid_mod, sid_ne1, sid_ne2, sid_inj]) (fun x => by simp (maxSteps := 5000000) -dsimp only [gr, Nat.reduceEqDiff, Nat.reduceLT, Nat.reduceAdd, Nat.reduceMod, Nat.reduceBEq, sid_mod, sid_ne1, sid_ne2, sid_inj])⟩⟩ <;> (first | (simp (maxSteps := 5000000) -dsimp only [gr, Nat.reduceEqDiff, Nat.reduceLT, Nat.reduceAdd, Nat.reduceMod, Nat.reduceBEq, sid_mod, sid_ne1, sid_ne2, sid_inj, h1a, h2a, r2a, h5a, h6a]; first | done | rfl | (simp; done)) | assumption | rfl)) ?_
        intro w sb ⟨h1b, h2b, r2b, h5b, h7b, hIb⟩
        obtain ⟨hw, hb2⟩ := hIb
        simp (maxSteps := 5000000) -dsimp only [↓gp, gq, reduceCtorEq, Nat.reduceEqDiff, Nat.reduceLT, Nat.reduceLeDiff, Nat.reduceAdd, Nat.reduceMul, Nat.reduceSub, Nat.reduceBEq, Int.reduceToNat, Int.reduceLE, Int.reduceLT, Int.reduceNeg, Nat.reduceMod, sid_ne1, sid_ne2, sid_inj, sid_mod, gT, TK.isInt, TK.agg, Array.toList, h1b, h2b, r2b, h5b, h7b, hsh, hun]
        refine ⟨fun h2 => askK_of (c_spec_l2Size w (by omega)) ?_, fun h2 => ?_⟩
        · simp (maxSteps := 5000000) -dsimp only [↓gp, gq, reduceCtorEq, Nat.reduceEqDiff, Nat.reduceLT, Nat.reduceLeDiff, Nat.reduceAdd, Nat.reduceMul, Nat.reduceSub, Nat.reduceBEq, Int.reduceToNat, Int.reduceLE, Int.reduceLT, Int.reduceNeg, Nat.reduceMod, sid_ne1, sid_ne2, sid_inj, sid_mod, gT, TK.isInt, TK.agg, Array.toList, h1b, h2b, r2b, h5b, h7b, hsh, hun]
          refine askK_of (c_spec_l5Inside _ xs w (by omega) hxo (by omega)) ?_
          simp (maxSteps := 5000000) -dsimp only [↓gp, gq, reduceCtorEq, Nat.reduceEqDiff, Nat.reduceLT, Nat.reduceLeDiff, Nat.reduceAdd, Nat.reduceMul, Nat.reduceSub, Nat.reduceBEq, Int.reduceToNat, Int.reduceLE, Int.reduceLT, Int.reduceNeg, Nat.reduceMod, sid_ne1, sid_ne2, sid_inj, sid_mod, gT, TK.isInt, TK.agg, Array.toList, h1b, h2b, r2b, h5b, h7b, hsh, hun]
          refine askK_of (c_spec_HolesMod _ _ p) ?_
          have hins := hol_ins hcx (w := w) (by omega) hp
          unfold insL at hins
          rw [hins]
          have hpn := pop_le_n (n := m) (by omega) h2
          have hsm := hol_small (partF (faceB xs) w) p
          have hdl := dimN_le (partF (faceB xs) w)
          have hhl := holF_length (partF (faceB xs) w) p
          generalize hhs : holF (partF (faceB xs) w) p = hs at *
          have hsq := fun k => addH_sq (j := popN w) (betP_sq (faceB xs) p m w) hsm k
          simp (maxSteps := 5000000) -dsimp only [↓gp, gq, reduceCtorEq, Nat.reduceEqDiff, Nat.reduceLT, Nat.reduceLeDiff, Nat.reduceAdd, Nat.reduceMul, Nat.reduceSub, Nat.reduceBEq, Int.reduceToNat, Int.reduceLE, Int.reduceLT, Int.reduceNeg, Nat.reduceMod, sid_ne1, sid_ne2, sid_inj, sid_mod, gT, TK.isInt, TK.agg, Array.toList, h1b, h2b, r2b, h5b, h7b, hsh, hun]
          refine loop_of (fun (zc : Nat × Nat) s => match zc with | (k, u) => s.sl 1 = int p ∧ s.sl 2 = .ref 2 1 0 ∧ s.rw 2 = ⟨1, .box 31 [int (m : Nat), ints xs]⟩ ∧ s.sl 5 = .own 11 (m + 1 + 1) ∧ s.sl 7 = int w ∧ s.sl 8 = int (popN w : Nat) ∧ s.sl 9 = .own 48 u ∧ s.rw 48 = ⟨u, .sli 3 1 false (iL hs)⟩ ∧ s.sl 10 = int k ∧ (k ≤ hs.length ∧ TabI s.rw 11 (m + 1 + 1) 22 3 (List.range (m + 1)) (addH (betP (faceB xs) p m w) (popN w) hs k))) (fun (k, u) => hs.length - k) ((0, (sb.rw 48).ver + 1)) (by refine ⟨?_, ?_, ?_, ?_, ?_, ?_, ?_, ?_, ?_, ⟨by omega, hb2.same (by simp (maxSteps := 5000000) -dsimp only [gr, Nat.reduceEqDiff, Nat.reduceLT, Nat.reduceAdd, Nat.reduceMod, Nat.reduceBEq, sid_mod, sid_ne1, sid_ne2, sid_inj]) (fun x => by simp (maxSteps := 5000000) -dsimp only [gr, Nat.reduceEqDiff, Nat.reduceLT, Nat.reduceAdd, Nat.reduceMod, Nat.reduceBEq, sid_mod, sid_ne1, sid_ne2, sid_inj])⟩⟩ <;> (first | (simp (maxSteps := 5000000) -dsimp only [gr, Nat.reduceEqDiff, Nat.reduceLT, Nat.reduceAdd, Nat.reduceMod, Nat.reduceBEq, sid_mod, sid_ne1, sid_ne2, sid_inj, h1b, h2b, r2b, h5b, h7b]; first | done | rfl | (simp; done)) | assumption | rfl)) ?_
          intro (k, u) sc ⟨h1c, h2c, r2c, h5c, h7c, h8c, h9c, r48c, h10c, hIc⟩
          obtain ⟨hk, hb3⟩ := hIc
          have hend : (k = hs.length ∨ popN w < k) → addH (betP (faceB xs) p m w) (popN w) hs k = betP (faceB xs) p m (w + 1) := fun h => by
            have e0 : betP (faceB xs) p m (w + 1) = addH (betP (faceB xs) p m w) (popN w) (holF (partF (faceB xs) w) p) (dimN (partF (faceB xs) w)) := rfl
            rw [e0, ← hhl, hhs]
            rcases h with h | h
            · rw [h]
            · have := addH_stop (M := betP (faceB xs) p m w) (hs := hs) h (hs.length - k)
              rw [show k + (hs.length - k) = hs.length by omega] at this
              exact this.symm
          by_cases h3 : k < hs.length
          · by_cases h4 : k ≤ popN w
            · have hsq := hsq k
              have hs1 := hsq.small (popN w - k) (popN w)
              have hs2 := hsm k
              have hml := hsq.len
              have hrl := hsq.row (popN w - k) (by omega)
              have hadd : addH (betP (faceB xs) p m w) (popN w) hs (k + 1) = addAt (addH (betP (faceB xs) p m w) (popN w) hs k) (popN w - k) (popN w) (hs.getD k 0) := by rw [addH, if_pos h4]
              generalize addH (betP (faceB xs) p m w) (popN w) hs k = M at *
              have e1 : (List.range (m + 1)).getD (popN w - k) 0 = popN w - k := rangeD (by omega)
              have hrow := hb3.row (i := popN w - k) (by omega)
              rw [e1] at hrow
              have hw1 : IntKind.i64.wrap ((popN w : Int) - (k : Int)) = ((popN w - k : Nat) : Int) := by rw [wrap_id (by omega) (by omega)]; omega
              have hw2 : IntKind.i64.wrap ((M.getD (popN w - k) []).getD (popN w) 0 + hs.getD k 0) = (M.getD (popN w - k) []).getD (popN w) 0 + hs.getD k 0 := wrap_id (by omega) (by omega)
              simp (maxSteps := 5000000) -dsimp only [↓gp, gq, reduceCtorEq, Nat.reduceEqDiff, Nat.reduceLT, Nat.reduceLeDiff, Nat.reduceAdd, Nat.reduceMul, Nat.reduceSub, Nat.reduceBEq, Int.reduceToNat, Int.reduceLE, Int.reduceLT, Int.reduceNeg, Nat.reduceMod, sid_ne1, sid_ne2, sid_inj, sid_mod, gT, TK.isInt, TK.agg, Array.toList, h1c, h2c, r2c, h5c, h7c, h8c, h9c, r48c, h10c, hw1, hb3.top, ld_cellsT, e1, hrow, hrl, cellsT_length, List.length_range, hw2]
              refine ⟨fun _ => ⟨fun _ => ⟨by kernel_rfl, by omega, by omega, by omega, by omega, by omega, by omega, h3, h3, by omega, by omega, by kernel_rfl, ?_⟩, fun h => absurd h4 h⟩, fun h => absurd h3 h⟩
              exact again_of ((k + 1, u)) (by refine ⟨?_, ?_, ?_, ?_, ?_, ?_, ?_, ?_, ?_, ⟨by dsimp only; omega, by
                dsimp only
                rw [hadd]
                exact hb3.set (i := popN w - k) (by omega) (by simp (maxSteps := 5000000) -dsimp only [gr, Nat.reduceEqDiff, Nat.reduceLT, Nat.reduceAdd, Nat.reduceMod, Nat.reduceBEq, sid_mod, sid_ne1, sid_ne2, sid_inj]) (by simp (maxSteps := 5000000) -dsimp only [gr, Nat.reduceEqDiff, Nat.reduceLT, Nat.reduceAdd, Nat.reduceMod, Nat.reduceBEq, sid_mod, sid_ne1, sid_ne2, sid_inj, e1, h1c, h2c, r2c, h5c, h7c, h8c, h9c, r48c, h10c, hb3.top, hrow]) (fun x hx => by simp (maxSteps := 5000000) -dsimp only [gr, Nat.reduceEqDiff, Nat.reduceLT, Nat.reduceAdd, Nat.reduceMod, Nat.reduceBEq, sid_mod, sid_ne1, sid_ne2, sid_inj, e1 ▸ hx])⟩⟩ <;> (first | (simp (maxSteps := 5000000) -dsimp only [gr, Nat.reduceEqDiff, Nat.reduceLT, Nat.reduceAdd, Nat.reduceMod, Nat.reduceBEq, sid_mod, sid_ne1, sid_ne2, sid_inj, h1c, h2c, r2c, h5c, h7c, h8c, h9c, r48c, h10c, wrap_nat h3 (by omega)]; first | done | rfl | (simp; done)) | assumption | rfl)) (by first | omega | (simp only; omega) | (dsimp only; omega) | (show _ < _; simp; omega))
            · have e := hend (.inr (by omega))
              rw [e] at hb3
              simp (maxSteps := 5000000) -dsimp only [↓gp, gq, reduceCtorEq, Nat.reduceEqDiff, Nat.reduceLT, Nat.reduceLeDiff, Nat.reduceAdd, Nat.reduceMul, Nat.reduceSub, Nat.reduceBEq, Int.reduceToNat, Int.reduceLE, Int.reduceLT, Int.reduceNeg, Nat.reduceMod, sid_ne1, sid_ne2, sid_inj, sid_mod, gT, TK.isInt, TK.agg, Array.toList, h1c, h2c, r2c, h5c, h7c, h8c, h9c, r48c, h10c]
              refine ⟨fun _ => ⟨fun h => absurd h h4, fun _ => ?_⟩, fun h => absurd h3 h⟩
              exact again_of (w + 1) (by refine ⟨?_, ?_, ?_, ?_, ?_, ⟨by omega, hb3.same (by simp (maxSteps := 5000000) -dsimp only [gr, Nat.reduceEqDiff, Nat.reduceLT, Nat.reduceAdd, Nat.reduceMod, Nat.reduceBEq, sid_mod, sid_ne1, sid_ne2, sid_inj]) (fun x => by simp (maxSteps := 5000000) -dsimp only [gr, Nat.reduceEqDiff, Nat.reduceLT, Nat.reduceAdd, Nat.reduceMod, Nat.reduceBEq, sid_mod, sid_ne1, sid_ne2, sid_inj])⟩⟩ <;> (first | (simp (maxSteps := 5000000) -dsimp only [gr, Nat.reduceEqDiff, Nat.reduceLT, Nat.reduceAdd, Nat.reduceMod, Nat.reduceBEq, sid_mod, sid_ne1, sid_ne2, sid_inj, h1b, h2b, r2b, h5b, h7b, h1c, h2c, r2c, h5c, h7c, h8c, h9c, r48c, h10c, wrap_nat h2 (by omega)]; first | done | rfl | (simp; done)) | assumption | rfl)) (by first | omega | (simp only; omega) | (dsimp only; omega) | (show _ < _; simp; omega))
          · have e := hend (.inl (by omega))
            rw [e] at hb3
            simp (maxSteps := 5000000) -dsimp only [↓gp, gq, reduceCtorEq, Nat.reduceEqDiff, Nat.reduceLT, Nat.reduceLeDiff, Nat.reduceAdd, Nat.reduceMul, Nat.reduceSub, Nat.reduceBEq, Int.reduceToNat, Int.reduceLE, Int.reduceLT, Int.reduceNeg, Nat.reduceMod, sid_ne1, sid_ne2, sid_inj, sid_mod, gT, TK.isInt, TK.agg, Array.toList, h1c, h2c, r2c, h5c, h7c, h8c, h9c, r48c, h10c]
            refine ⟨fun h => absurd h h3, fun _ => ?_⟩
            exact again_of (w + 1) (by refine ⟨?_, ?_, ?_, ?_, ?_, ⟨by omega, hb3.same (by simp (maxSteps := 5000000) -dsimp only [gr, Nat.reduceEqDiff, Nat.reduceLT, Nat.reduceAdd, Nat.reduceMod, Nat.reduceBEq, sid_mod, sid_ne1, sid_ne2, sid_inj]) (fun x => by simp (maxSteps := 5000000) -dsimp only [gr, Nat.reduceEqDiff, Nat.reduceLT, Nat.reduceAdd, Nat.reduceMod, Nat.reduceBEq, sid_mod, sid_ne1, sid_ne2, sid_inj])⟩⟩ <;> (first | (simp (maxSteps := 5000000) -dsimp only [gr, Nat.reduceEqDiff, Nat.reduceLT, Nat.reduceAdd, Nat.reduceMod, Nat.reduceBEq, sid_mod, sid_ne1, sid_ne2, sid_inj, h1b, h2b, r2b, h5b, h7b, h1c, h2c, r2c, h5c, h7c, h8c, h9c, r48c, h10c, wrap_nat h2 (by omega)]; first | done | rfl | (simp; done)) | assumption | rfl)) (by first | omega | (simp only; omega) | (dsimp only; omega) | (show _ < _; simp; omega))
        · have : w = 2 ^ m := by omega
          subst this
          exact out2_tabI hb2 (by decide) (fun j hj => by have := List.mem_range.1 hj; omega)
  · have hh : hasF n xs = false := by simpa using hh
    rw [betR_no (fun h => by rw [h.1] at hh; cases hh)]
    exact out2_tb0 (by simp (maxSteps := 5000000) -dsimp only [gr, Nat.reduceEqDiff, Nat.reduceLT, Nat.reduceAdd, Nat.reduceMod, Nat.reduceBEq, sid_mod, sid_ne1, sid_ne2, sid_inj]) (by decide)
end Go.Proofs.YtmpjajhklilleaaDoor

namespace Go.Proofs.YtmpjajhklilleaaDoor
open Go.Abs
set_option linter.unusedSimpArgs false
set_option linter.unusedVariables false

def zeros (n : Nat) : List Int := List.replicate n 0
theorem c_impl_emptyTable (n : Nat) (hn : n ≤ 100) : AC Tryd.prog 51 [int n] (.tb 22 3 (List.replicate (n + 1) (iL (zeros (n + 1))))) := by
  refine AC.go (rs := [.tmp 2]) T_ok mixed Tryd.func51 rfl rfl rfl (by kernel_rfl) fun hl => ?_
  have hw : IntKind.i64.wrap ((n : Int) + 1) = ((n + 1 : Nat) : Int) := by rw [wrap_id (by omega) (by omega)]; rfl
  simp (maxSteps := 5000000) -dsimp only [↓gp, gq, reduceCtorEq, Nat.reduceEqDiff, Nat.reduceLT, Nat.reduceLeDiff, Nat.reduceAdd, Nat.reduceMul, Nat.reduceSub, Nat.reduceBEq, Int.reduceToNat, Int.reduceLE, Int.reduceLT, Int.reduceNeg, Nat.reduceMod, sid_ne1, sid_ne2, sid_inj, sid_mod, gT, TK.isInt, TK.agg, Array.toList, hw, Int.toNat_natCast]
  refine ⟨by omega, by omega, ?_⟩
  refine loop_wk (fun (i : Nat) s => s.sl 0 = int n ∧ s.sl 3 = .own 7 1 ∧ s.rw 7 = ⟨1, .tab 22 (tabC 7 (n + 1) i)⟩ ∧ s.sl 9 = int (n + 1 : Nat) ∧ s.sl 10 = int i ∧ (i ≤ n + 1 ∧ (∀ j, j < i → s.rw (sid 7 j) = ⟨1, .sli 3 1 false (iL (zeros (n + 1)))⟩) ∧ ∀ j, i ≤ j → s.rw (sid 7 j) = ⟨0, .dead⟩)) (fun i => n + 1 - i) (0) (Wk.tab (k := 7) (v := 1) (e := 22) (c := List.replicate (n + 1) (.v (.slice none 0 0))) (by simp (maxSteps := 5000000) -dsimp only [gr, Nat.reduceEqDiff, Nat.reduceLT, Nat.reduceAdd, Nat.reduceMod, Nat.reduceBEq, sid_mod, sid_ne1, sid_ne2, sid_inj]) (plain_nils _)) (by refine ⟨?_, ?_, ?_, ?_, ?_, ⟨by simp, fun j h => absurd h (by omega), fun j _ => by simp (maxSteps := 5000000) -dsimp only [gr, Nat.reduceEqDiff, Nat.reduceLT, Nat.reduceAdd, Nat.reduceMod, Nat.reduceBEq, sid_mod, sid_ne1, sid_ne2, sid_inj]⟩⟩ <;> (first | (simp (maxSteps := 5000000) -dsimp only [gr, Nat.reduceEqDiff, Nat.reduceLT, Nat.reduceAdd, Nat.reduceMod, Nat.reduceBEq, sid_mod, sid_ne1, sid_ne2, sid_inj, ← tabC_zero]; first | done | rfl | (simp; done)) | assumption | rfl)) ?_
  intro i sa ⟨h0a, h3a, r7a, h9a, h10a, hIa⟩
  obtain ⟨hi, hlo, hhi⟩ := hIa
  simp (maxSteps := 5000000) -dsimp only [↓gp, gq, reduceCtorEq, Nat.reduceEqDiff, Nat.reduceLT, Nat.reduceLeDiff, Nat.reduceAdd, Nat.reduceMul, Nat.reduceSub, Nat.reduceBEq, Int.reduceToNat, Int.reduceLE, Int.reduceLT, Int.reduceNeg, Nat.reduceMod, sid_ne1, sid_ne2, sid_inj, sid_mod, gT, TK.isInt, TK.agg, Array.toList, h0a, h3a, r7a, h9a, h10a, hw, tabC_length, Int.toNat_natCast]
  refine ⟨fun h => ⟨by omega, by omega, h, by omega, ?_⟩, fun h => ?_⟩
  · exact again_wk (i + 1) (Wk.ren (d := 17) (k := 7) (k' := sid 7 i) (v := (sa.rw 17).ver + 1) (vk := 1) (e := 3) (et := 22) (sz := 1) (c := iL (zeros (n + 1))) (cs := spl (tabC 7 (n + 1) i) i [.own 17 ((sa.rw 17).ver + 1)]) (cs' := tabC 7 (n + 1) (i + 1)) (by simp (maxSteps := 5000000) -dsimp only [gr, Nat.reduceEqDiff, Nat.reduceLT, Nat.reduceAdd, Nat.reduceMod, Nat.reduceBEq, sid_mod, sid_ne1, sid_ne2, sid_inj, zeros]) (by simp (maxSteps := 5000000) -dsimp only [gr, Nat.reduceEqDiff, Nat.reduceLT, Nat.reduceAdd, Nat.reduceMod, Nat.reduceBEq, sid_mod, sid_ne1, sid_ne2, sid_inj, h0a, h3a, r7a, h9a, h10a]) (by simp (maxSteps := 5000000) -dsimp only [gr, Nat.reduceEqDiff, Nat.reduceLT, Nat.reduceAdd, Nat.reduceMod, Nat.reduceBEq, sid_mod, sid_ne1, sid_ne2, sid_inj, hhi i (Nat.le_refl _)]) (by decide) (tabC_ren h)) (by refine ⟨?_, ?_, ?_, ?_, ?_, ⟨by omega, fun j hj => (by
      by_cases e : j = i
      · subst e; simp (maxSteps := 5000000) -dsimp only [gr, Nat.reduceEqDiff, Nat.reduceLT, Nat.reduceAdd, Nat.reduceMod, Nat.reduceBEq, sid_mod, sid_ne1, sid_ne2, sid_inj]
      · simp (maxSteps := 5000000) -dsimp only [gr, Nat.reduceEqDiff, Nat.reduceLT, Nat.reduceAdd, Nat.reduceMod, Nat.reduceBEq, sid_mod, sid_ne1, sid_ne2, sid_inj, e, hlo j (by omega)]), fun j hj => (by
      have e : ¬ j = i := by omega
      simp (maxSteps := 5000000) -dsimp only [gr, Nat.reduceEqDiff, Nat.reduceLT, Nat.reduceAdd, Nat.reduceMod, Nat.reduceBEq, sid_mod, sid_ne1, sid_ne2, sid_inj, e, hhi j (by omega)])⟩⟩ <;> (first | (simp (maxSteps := 5000000) -dsimp only [gr, Nat.reduceEqDiff, Nat.reduceLT, Nat.reduceAdd, Nat.reduceMod, Nat.reduceBEq, sid_mod, sid_ne1, sid_ne2, sid_inj, h0a, h3a, r7a, h9a, h10a, wrap_nat h (by omega)]; first | done | rfl | (simp; done)) | assumption | rfl)) (by first | omega | (simp only; omega) | (dsimp only; omega) | (show _ < _; simp; omega))
  · obtain rfl : i = n + 1 := by omega
    refine out2_tab (n := n + 1) (by decide) (by omega) (by rw [r7a, tabC_end]) (by simp) fun j hj => ?_
    rw [hlo j hj]
    simp [List.getD, hj]
end Go.Proofs.YtmpjajhklilleaaDoor

namespace Go.Proofs.YtmpjajhklilleaaDoor
open Go.Abs
set_option linter.unusedSimpArgs false
set_option linter.unusedVariables false

theorem zeroM_map (m : Nat) : List.replicate (m + 1) (iL (zeros (m + 1))) = (List.replicate (m + 1) (List.replicate (m + 1) (0 : Int))).map iL := by simp [zeros]
theorem c_impl_BettiTable (n : Int) (xs : List Int) (p : Int) : AC Tryd.prog 29 [.ag [int n, ints xs], int p] (.tb 22 3 ((betR n xs p).map iL)) := by
  refine AC.go (rs := [.tmp 4]) T_ok mixed Tryd.func29 rfl rfl rfl (by kernel_rfl) fun hl => ?_
  simp only [lens_cons, lens_nil, and_true, lens2_ag2, lens1_v, lens1_iL, true_and] at hl
  simp (maxSteps := 5000000) -dsimp only [↓gp, gq, reduceCtorEq, Nat.reduceEqDiff, Nat.reduceLT, Nat.reduceLeDiff, Nat.reduceAdd, Nat.reduceMul, Nat.reduceSub, Nat.reduceBEq, Int.reduceToNat, Int.reduceLE, Int.reduceLT, Int.reduceNeg, Nat.reduceMod, sid_ne1, sid_ne2, sid_inj, sid_mod, gT, TK.isInt, TK.agg, Array.toList]
  refine askK_of (c_impl_IsComplex n xs) ?_
  simp (maxSteps := 5000000) -dsimp only [↓gp, gq, reduceCtorEq, Nat.reduceEqDiff, Nat.reduceLT, Nat.reduceLeDiff, Nat.reduceAdd, Nat.reduceMul, Nat.reduceSub, Nat.reduceBEq, Int.reduceToNat, Int.reduceLE, Int.reduceLT, Int.reduceNeg, Nat.reduceMod, sid_ne1, sid_ne2, sid_inj, sid_mod, gT, TK.isInt, TK.agg, Array.toList]
  refine ⟨fun hc => ⟨fun h0 => askK_of (c_impl_IsFieldPrime p) ?_, fun h0 => ?_⟩, fun hc => ?_⟩
  · have hcx : isCx n xs = true := by simpa using hc
    have hh : hasF n xs = true := hasF_iff.2 ⟨hcx, by simp at h0; exact List.length_pos_iff.2 h0⟩
    simp (maxSteps := 5000000) -dsimp only [↓gp, gq, reduceCtorEq, Nat.reduceEqDiff, Nat.reduceLT, Nat.reduceLeDiff, Nat.reduceAdd, Nat.reduceMul, Nat.reduceSub, Nat.reduceBEq, Int.reduceToNat, Int.reduceLE, Int.reduceLT, Int.reduceNeg, Nat.reduceMod, sid_ne1, sid_ne2, sid_inj, sid_mod, gT, TK.isInt, TK.agg, Array.toList]
    refine ⟨fun hp => ?_, fun hp => ?_⟩
    · rw [betR_no (fun h => by rw [h.2] at hp; cases hp)]
      exact out2_tb0 (by simp (maxSteps := 5000000) -dsimp only [gr, Nat.reduceEqDiff, Nat.reduceLT, Nat.reduceAdd, Nat.reduceMod, Nat.reduceBEq, sid_mod, sid_ne1, sid_ne2, sid_inj]) (by decide)
    · have hp : isP p = true := by simpa using hp
      obtain ⟨h1, h6, _⟩ := isCx_iff.1 hcx
      have hb : betR n xs p = betT (faceB xs) p n.toNat := if_pos ⟨hh, hp⟩
      rw [hb]
      have hxo := cx_ok hcx
      have hxl := cx_len hcx
      obtain ⟨m, rfl⟩ : ∃ m : Nat, n = m := ⟨n.toNat, by omega⟩
      rw [Int.toNat_natCast]
      have h64 := two_pow_le (m := m) (by omega)
      have hsh : ishl .i64 1 (m : Int) = ((2 ^ m : Nat) : Int) := ishl_small (by omega)
      have hun : IntKind.u64.wrap (m : Int) = (m : Int) := uwrap_id (by omega)
      refine askK_of (c_impl_emptyTable m (by omega)) ?_
      rw [zeroM_map]
      simp (maxSteps := 5000000) -dsimp only [↓gp, gq, reduceCtorEq, Nat.reduceEqDiff, Nat.reduceLT, Nat.reduceLeDiff, Nat.reduceAdd, Nat.reduceMul, Nat.reduceSub, Nat.reduceBEq, Int.reduceToNat, Int.reduceLE, Int.reduceLT, Int.reduceNeg, Nat.reduceMod, sid_ne1, sid_ne2, sid_inj, sid_mod, gT, TK.isInt, TK.agg, Array.toList]
      refine askK_of (c_impl_facesIn _ xs hxo) ?_
      simp (maxSteps := 5000000) -dsimp only [↓gp, gq, reduceCtorEq, Nat.reduceEqDiff, Nat.reduceLT, Nat.reduceLeDiff, Nat.reduceAdd, Nat.reduceMul, Nat.reduceSub, Nat.reduceBEq, Int.reduceToNat, Int.reduceLE, Int.reduceLT, Int.reduceNeg, Nat.reduceMod, sid_ne1, sid_ne2, sid_inj, sid_mod, gT, TK.isInt, TK.agg, Array.toList]
      refine loop_of (fun (w : Nat) s => s.sl 1 = int p ∧ s.sl 2 = .ref 2 1 0 ∧ s.rw 2 = ⟨1, .box 31 [int (m : Nat), ints xs]⟩ ∧ s.sl 5 = .own 27 1 ∧ s.sl 6 = u64 (maskF (faceB xs) 64 : Nat) ∧ s.sl 7 = int w ∧ (w ≤ 2 ^ m ∧ TabI s.rw 27 1 22 3 (List.range (m + 1)) (betP (faceB xs) p m w))) (fun w => 2 ^ m - w) (0) (by refine ⟨?_, ?_, ?_, ?_, ?_, ?_, ⟨Nat.zero_le _, TabI.adopt (d := 27) (by simp only [put_rw]; rfl) (fun x => by simp only [put_rw]; rfl) (fun i hi => by simp (maxSteps := 5000000) -dsimp only [gr, Nat.reduceEqDiff, Nat.reduceLT, Nat.reduceAdd, Nat.reduceMod, Nat.reduceBEq, sid_mod, sid_ne1, sid_ne2, sid_inj]) (by simp (maxSteps := 5000000) -dsimp only [gr, Nat.reduceEqDiff, Nat.reduceLT, Nat.reduceAdd, Nat.reduceMod, Nat.reduceBEq, sid_mod, sid_ne1, sid_ne2, sid_inj]) List.length_replicate⟩⟩ <;> (first | (simp (maxSteps := 5000000) -dsimp only [gr, Nat.reduceEqDiff, Nat.reduceLT, Nat.reduceAdd, Nat.reduceMod, Nat.reduceBEq, sid_mod, sid_ne1, sid_ne2, sid_inj]; first | done | rfl | (simp; done)) | assumption | rfl)) ?_
      intro w sb ⟨h1b, h2b, r2b, h5b, h6b, h7b, hIb⟩
      obtain ⟨hw, hb2⟩ := hIb
      simp (maxSteps := 5000000) -dsimp only [↓gp, gq, reduceCtorEq, Nat.reduceEqDiff, Nat.reduceLT, Nat.reduceLeDiff, Nat.reduceAdd, Nat.reduceMul, Nat.reduceSub, Nat.reduceBEq, Int.reduceToNat, Int.reduceLE, Int.reduceLT, Int.reduceNeg, Nat.reduceMod, sid_ne1, sid_ne2, sid_inj, sid_mod, gT, TK.isInt, TK.agg, Array.toList, h1b, h2b, r2b, h5b, h6b, h7b, hsh, hun]
      refine ⟨fun h2 => askK_of (c_impl_SizeOf _) ?_, fun h2 => ?_⟩
      · have hw64 : w < 64 := by omega
        have hz := szOf_nat hw64
        simp (maxSteps := 5000000) -dsimp only [↓gp, gq, reduceCtorEq, Nat.reduceEqDiff, Nat.reduceLT, Nat.reduceLeDiff, Nat.reduceAdd, Nat.reduceMul, Nat.reduceSub, Nat.reduceBEq, Int.reduceToNat, Int.reduceLE, Int.reduceLT, Int.reduceNeg, Nat.reduceMod, sid_ne1, sid_ne2, sid_inj, sid_mod, gT, TK.isInt, TK.agg, Array.toList, h1b, h2b, r2b, h5b, h6b, h7b, hsh, hun, hz]
        refine askK_of (c_impl_inducedIn (faceB xs) w hw64) ?_
        simp (maxSteps := 5000000) -dsimp only [↓gp, gq, reduceCtorEq, Nat.reduceEqDiff, Nat.reduceLT, Nat.reduceLeDiff, Nat.reduceAdd, Nat.reduceMul, Nat.reduceSub, Nat.reduceBEq, Int.reduceToNat, Int.reduceLE, Int.reduceLT, Int.reduceNeg, Nat.reduceMod, sid_ne1, sid_ne2, sid_inj, sid_mod, gT, TK.isInt, TK.agg, Array.toList, h1b, h2b, r2b, h5b, h6b, h7b, hsh, hun, hz]
        refine askK_of (c_impl_holesIn _ p hp) ?_
        have epart : (fun t => faceB xs t && subB w t) = partF (faceB xs) w := rfl
        rw [epart]
        have hpn := pop_le_n (n := m) (by omega) h2
        have hsm := hol_small (partF (faceB xs) w) p
        have hdl := dimN_le (partF (faceB xs) w)
        have hhl := holF_length (partF (faceB xs) w) p
        generalize hhs : holF (partF (faceB xs) w) p = hs at *
        have hsq := fun k => addH_sq (j := popN w) (betP_sq (faceB xs) p m w) hsm k
        simp (maxSteps := 5000000) -dsimp only [↓gp, gq, reduceCtorEq, Nat.reduceEqDiff, Nat.reduceLT, Nat.reduceLeDiff, Nat.reduceAdd, Nat.reduceMul, Nat.reduceSub, Nat.reduceBEq, Int.reduceToNat, Int.reduceLE, Int.reduceLT, Int.reduceNeg, Nat.reduceMod, sid_ne1, sid_ne2, sid_inj, sid_mod, gT, TK.isInt, TK.agg, Array.toList, h1b, h2b, r2b, h5b, h6b, h7b, hsh, hun]
        refine loop_of (fun (zc : Nat × Nat) s => match zc with | (k, u) => s.sl 1 = int p ∧ s.sl 2 = .ref 2 1 0 ∧ s.rw 2 = ⟨1, .box 31 [int (m : Nat), ints xs]⟩ ∧ s.sl 5 = .own 27 1 ∧ s.sl 6 = u64 (maskF (faceB xs) 64 : Nat) ∧ s.sl 7 = int w ∧ s.sl 8 = int (popN w : Nat) ∧ s.sl 44 = .own 44 u ∧ s.rw 44 = ⟨u, .sli 3 1 false (iL hs)⟩ ∧ s.sl 45 = int hs.length ∧ s.sl 46 = int k ∧ (k ≤ hs.length ∧ TabI s.rw 27 1 22 3 (List.range (m + 1)) (addH (betP (faceB xs) p m w) (popN w) hs k))) (fun (k, u) => hs.length - k) ((0, (sb.rw 44).ver + 1)) (by refine ⟨?_, ?_, ?_, ?_, ?_, ?_, ?_, ?_, ?_, ?_, ?_, ⟨by omega, hb2.same (by simp (maxSteps := 5000000) -dsimp only [gr, Nat.reduceEqDiff, Nat.reduceLT, Nat.reduceAdd, Nat.reduceMod, Nat.reduceBEq, sid_mod, sid_ne1, sid_ne2, sid_inj]) (fun x => by simp (maxSteps := 5000000) -dsimp only [gr, Nat.reduceEqDiff, Nat.reduceLT, Nat.reduceAdd, Nat.reduceMod, Nat.reduceBEq, sid_mod, sid_ne1, sid_ne2, sid_inj])⟩⟩ <;> (first | (simp (maxSteps := 5000000) -dsimp only [gr, Nat.reduceEqDiff, Nat.reduceLT, Nat.reduceAdd, Nat.reduceMod, Nat.reduceBEq, sid_mod, sid_ne1, sid_ne2, sid_inj, h1b, h2b, r2b, h5b, h6b, h7b]; first | done | rfl | (simp; done)) | assumption | rfl)) ?_
        intro (k, u) sc ⟨h1c, h2c, r2c, h5c, h6c, h7c, h8c, h44c, r44c, h45c, h46c, hIc⟩
        obtain ⟨hk, hb3⟩ := hIc
        by_cases h3 : k < hs.length
        · by_cases h4 : k ≤ popN w
          · have hsq := hsq k
            have hs1 := hsq.small (popN w - k) (popN w)
            have hs2 := hsm k
            have hml := hsq.len
            have hrl := hsq.row (popN w - k) (by omega)
            have hadd : addH (betP (faceB xs) p m w) (popN w) hs (k + 1) = addAt (addH (betP (faceB xs) p m w) (popN w) hs k) (popN w - k) (popN w) (hs.getD k 0) := by rw [addH, if_pos h4]
            generalize addH (betP (faceB xs) p m w) (popN w) hs k = M at *
            have e1 : (List.range (m + 1)).getD (popN w - k) 0 = popN w - k := rangeD (by omega)
            have hrow := hb3.row (i := popN w - k) (by omega)
            rw [e1] at hrow
            have hw1 : IntKind.i64.wrap ((popN w : Int) - (k : Int)) = ((popN w - k : Nat) : Int) := by rw [wrap_id (by omega) (by omega)]; omega
            have hw2 : IntKind.i64.wrap ((M.getD (popN w - k) []).getD (popN w) 0 + hs.getD k 0) = (M.getD (popN w - k) []).getD (popN w) 0 + hs.getD k 0 := wrap_id (by omega) (by omega)
            simp (maxSteps := 5000000) -dsimp only [↓gp, gq, reduceCtorEq, Nat.reduceEqDiff, Nat.reduceLT, Nat.reduceLeDiff, Nat.reduceAdd, Nat.reduceMul, Nat.reduceSub, Nat.reduceBEq, Int.reduceToNat, Int.reduceLE, Int.reduceLT, Int.reduceNeg, Nat.reduceMod, sid_ne1, sid_ne2, sid_inj, sid_mod, gT, TK.isInt, TK.agg, Array.toList, h1c, h2c, r2c, h5c, h6c, h7c, h8c, h44c, r44c, h45c, h46c, hw1, hb3.top, ld_cellsT, e1, hrow, hrl, cellsT_length, List.length_range, hw2]
            refine ⟨fun _ => ⟨h3, h3, fun _ => ⟨by omega, by omega, by omega, by omega, by omega, by omega, ?_⟩, fun h => absurd h4 h⟩, fun h => absurd h3 h⟩
            exact again_of ((k + 1, u)) (by refine ⟨?_, ?_, ?_, ?_, ?_, ?_, ?_, ?_, ?_, ?_, ?_, ⟨by dsimp only; omega, by
                dsimp only
                rw [hadd]
                exact hb3.set (i := popN w - k) (by omega) (by simp (maxSteps := 5000000) -dsimp only [gr, Nat.reduceEqDiff, Nat.reduceLT, Nat.reduceAdd, Nat.reduceMod, Nat.reduceBEq, sid_mod, sid_ne1, sid_ne2, sid_inj]) (by simp (maxSteps := 5000000) -dsimp only [gr, Nat.reduceEqDiff, Nat.reduceLT, Nat.reduceAdd, Nat.reduceMod, Nat.reduceBEq, sid_mod, sid_ne1, sid_ne2, sid_inj, e1, h1c, h2c, r2c, h5c, h6c, h7c, h8c, h44c, r44c, h45c, h46c, hb3.top, hrow]) (fun x hx => by simp (maxSteps := 5000000) -dsimp only [gr, Nat.reduceEqDiff, Nat.reduceLT, Nat.reduceAdd, Nat.reduceMod, Nat.reduceBEq, sid_mod, sid_ne1, sid_ne2, sid_inj, e1 ▸ hx])⟩⟩ <;> (first | (simp (maxSteps := 5000000) -dsimp only [gr, Nat.reduceEqDiff, Nat.reduceLT, Nat.reduceAdd, Nat.reduceMod, Nat.reduceBEq, sid_mod, sid_ne1, sid_ne2, sid_inj, h1c, h2c, r2c, h5c, h6c, h7c, h8c, h44c, r44c, h45c, h46c, wrap_nat h3 (by omega)]; first | done | rfl | (simp; done)) | assumption | rfl)) (by first | omega | (simp only; omega) | (dsimp only; omega) | (show _ < _; simp; omega))
          · have hadd : addH (betP (faceB xs) p m w) (popN w) hs (k + 1) = addH (betP (faceB xs) p m w) (popN w) hs k := by rw [addH, if_neg h4]
            simp (maxSteps := 5000000) -dsimp only [↓gp, gq, reduceCtorEq, Nat.reduceEqDiff, Nat.reduceLT, Nat.reduceLeDiff, Nat.reduceAdd, Nat.reduceMul, Nat.reduceSub, Nat.reduceBEq, Int.reduceToNat, Int.reduceLE, Int.reduceLT, Int.reduceNeg, Nat.reduceMod, sid_ne1, sid_ne2, sid_inj, sid_mod, gT, TK.isInt, TK.agg, Array.toList, h1c, h2c, r2c, h5c, h6c, h7c, h8c, h44c, r44c, h45c, h46c]
            refine ⟨fun _ => ⟨h3, h3, fun h => absurd h h4, fun _ => ?_⟩, fun h => absurd h3 h⟩
            exact again_of ((k + 1, u)) (by refine ⟨?_, ?_, ?_, ?_, ?_, ?_, ?_, ?_, ?_, ?_, ?_, ⟨by dsimp only; omega, by
                dsimp only
                rw [hadd]
                exact hb3.same (by simp (maxSteps := 5000000) -dsimp only [gr, Nat.reduceEqDiff, Nat.reduceLT, Nat.reduceAdd, Nat.reduceMod, Nat.reduceBEq, sid_mod, sid_ne1, sid_ne2, sid_inj]) (fun x => by simp (maxSteps := 5000000) -dsimp only [gr, Nat.reduceEqDiff, Nat.reduceLT, Nat.reduceAdd, Nat.reduceMod, Nat.reduceBEq, sid_mod, sid_ne1, sid_ne2, sid_inj])⟩⟩ <;> (first | (simp (maxSteps := 5000000) -dsimp only [gr, Nat.reduceEqDiff, Nat.reduceLT, Nat.reduceAdd, Nat.reduceMod, Nat.reduceBEq, sid_mod, sid_ne1, sid_ne2, sid_inj, h1c, h2c, r2c, h5c, h6c, h7c, h8c, h44c, r44c, h45c, h46c, wrap_nat h3 (by omega)]; first | done | rfl | (simp; done)) | assumption | rfl)) (by first | omega | (simp only; omega) | (dsimp only; omega) | (show _ < _; simp; omega))
        · have e : addH (betP (faceB xs) p m w) (popN w) hs k = betP (faceB xs) p m (w + 1) := by
            have e0 : betP (faceB xs) p m (w + 1) = addH (betP (faceB xs) p m w) (popN w) (holF (partF (faceB xs) w) p) (dimN (partF (faceB xs) w)) := rfl
            rw [e0, ← hhl, hhs, show k = hs.length by omega]
          rw [e] at hb3
          simp (maxSteps := 5000000) -dsimp only [↓gp, gq, reduceCtorEq, Nat.reduceEqDiff, Nat.reduceLT, Nat.reduceLeDiff, Nat.reduceAdd, Nat.reduceMul, Nat.reduceSub, Nat.reduceBEq, Int.reduceToNat, Int.reduceLE, Int.reduceLT, Int.reduceNeg, Nat.reduceMod, sid_ne1, sid_ne2, sid_inj, sid_mod, gT, TK.isInt, TK.agg, Array.toList, h1c, h2c, r2c, h5c, h6c, h7c, h8c, h44c, r44c, h45c, h46c]
          refine ⟨fun h => absurd h h3, fun _ => ?_⟩
          exact again_of (w + 1) (by refine ⟨?_, ?_, ?_, ?_, ?_, ?_, ⟨by omega, hb3.same (by simp (maxSteps := 5000000) -dsimp only [gr, Nat.reduceEqDiff, Nat.reduceLT, Nat.reduceAdd, Nat.reduceMod, Nat.reduceBEq, sid_mod, sid_ne1, sid_ne2, sid_inj]) (fun x => by simp (maxSteps := 5000000) -dsimp only [gr, Nat.reduceEqDiff, Nat.reduceLT, Nat.reduceAdd, Nat.reduceMod, Nat.reduceBEq, sid_mod, sid_ne1, sid_ne2, sid_inj])⟩⟩ <;> (first | (simp (maxSteps := 5000000) -dsimp only [gr, Nat.reduceEqDiff, Nat.reduceLT, Nat.reduceAdd, Nat.reduceMod, Nat.reduceBEq, sid_mod, sid_ne1, sid_ne2, sid_inj, h1b, h2b, r2b, h5b, h6b, h7b, h1c, h2c, r2c, h5c, h6c, h7c, h8c, h44c, r44c, h45c, h46c, wrap_nat h2 (by omega)]; first | done | rfl | (simp; done)) | assumption | rfl)) (by first | omega | (simp only; omega) | (dsimp only; omega) | (show _ < _; simp; omega))
      · have : w = 2 ^ m := by omega
        subst this
        exact out2_tabI hb2 (by decide) (fun j hj => by have := List.mem_range.1 hj; omega)
  · rw [betR_no (fun h => by have := (hasF_iff.1 h.1).2; simp at h0; rw [h0] at this; simp at this)]
    exact out2_tb0 (by simp (maxSteps := 5000000) -dsimp only [gr, Nat.reduceEqDiff, Nat.reduceLT, Nat.reduceAdd, Nat.reduceMod, Nat.reduceBEq, sid_mod, sid_ne1, sid_ne2, sid_inj]) (by decide)
  · rw [betR_no (fun h => by have := (hasF_iff.1 h.1).1; rw [this] at hc; cases hc)]
    exact out2_tb0 (by simp (maxSteps := 5000000) -dsimp only [gr, Nat.reduceEqDiff, Nat.reduceLT, Nat.reduceAdd, Nat.reduceMod, Nat.reduceBEq, sid_mod, sid_ne1, sid_ne2, sid_inj]) (by decide)
end Go.Proofs.YtmpjajhklilleaaDoor

namespace Go.Proofs.YtmpjajhklilleaaDoor
open Go.Abs
set_option linter.unusedSimpArgs false
set_option linter.unusedVariables false

theorem betR_sq (n : Int) (xs : List Int) (p : Int) : SqB (betR n xs p) := by
  unfold betR
  split
  · rename_i h
    obtain ⟨h1, h6, _⟩ := isCx_iff.1 (hasF_iff.1 h.1).1
    exact .of (betT_sq _ p (n := n.toNat) (by omega)) (by omega)
  · exact .nil
theorem flat_map (M : Mat) : (M.map iL).map (fun r => PV.sl false 1 r) = iLL M := by unfold iLL; rw [List.map_map]; rfl
theorem c_spec_BettiTableF (n : Int) (xs : List Int) (p : Int) : AC Tryd.prog 28 [.ag [int n, ints xs], int p] (.fr 22 1 (iLL (betR n xs p))) := flat_map (betR n xs p) ▸ (c_spec_BettiTable n xs p).flat
theorem c_impl_BettiTableF (n : Int) (xs : List Int) (p : Int) : AC Tryd.prog 29 [.ag [int n, ints xs], int p] (.fr 22 1 (iLL (betR n xs p))) := flat_map (betR n xs p) ▸ (c_impl_BettiTable n xs p).flat
end Go.Proofs.YtmpjajhklilleaaDoor

namespace Go.Proofs.YtmpjajhklilleaaDoor
open Go.Abs
set_option linter.unusedSimpArgs false
set_option linter.unusedVariables false

def cellT (i j : Nat) (x : Int) : ByteArray := itoaB i ++ ⟨#[58]⟩ ++ itoaB j ++ ⟨#[61]⟩ ++ itoaB x
def rowT (i : Nat) (r : List Int) : Nat → List ByteArray | 0 => [] | k + 1 => if r.getD k 0 = 0 then rowT i r k else rowT i r k ++ [cellT i k (r.getD k 0)]
def tabT (M : Mat) : Nat → List ByteArray | 0 => [] | i + 1 => tabT M i ++ rowT i (M.getD i []) M.length
theorem rowT_len (i : Nat) (r : List Int) : ∀ k, (rowT i r k).length ≤ k := by
  intro k
  induction k with
  | zero => exact Nat.le_refl _
  | succ k ih =>
    rw [rowT]
    split
    · omega
    · rw [List.length_append, List.length_singleton]; omega
theorem tabT_len {M : Mat} (hM : M.length ≤ 7) : ∀ i, (tabT M i).length ≤ 7 * i := by
  intro i
  induction i with
  | zero => exact Nat.le_refl _
  | succ i ih => rw [tabT, List.length_append]; have := rowT_len i (M.getD i []) M.length; omega
theorem cellT_size {i j : Nat} {x : Int} (hi : i ≤ 100) (hj : j ≤ 100) (hx : -100000 ≤ x ∧ x ≤ 100000) : (cellT i j x).size ≤ 62 := by
  have h1 := itoaB_size (n := i) (by omega) (by omega)
  have h2 := itoaB_size (n := j) (by omega) (by omega)
  have h3 := itoaB_size (n := x) (by omega) (by omega)
  unfold cellT
  simp only [ByteArray.size_append]
  show _ + 1 + _ + 1 + _ ≤ 62
  omega
theorem rowT_all {i : Nat} {r : List Int} (hi : i ≤ 100) (hr : ∀ k, -100000 ≤ r.getD k 0 ∧ r.getD k 0 ≤ 100000) : ∀ k, k ≤ 100 → ∀ b ∈ rowT i r k, b.size ≤ 62 := by
  intro k
  induction k with
  | zero => intro _ b hb; cases hb
  | succ k ih =>
    intro hk b hb
    rw [rowT] at hb
    split at hb
    · exact ih (by omega) b hb
    · rcases List.mem_append.1 hb with hb | hb
      · exact ih (by omega) b hb
      · rw [List.mem_singleton.1 hb]; exact cellT_size hi (by omega) (hr k)
theorem tabT_all {M : Mat} (h : SqB M) : ∀ i, i ≤ 7 → ∀ b ∈ tabT M i, b.size ≤ 62 := by
  intro i
  induction i with
  | zero => intro _ b hb; cases hb
  | succ i ih =>
    intro hi b hb
    rcases List.mem_append.1 (show b ∈ tabT M i ++ rowT i (M.getD i []) M.length from hb) with hb | hb
    · exact ih (by omega) b hb
    · exact rowT_all (by omega) (fun k => h.small i k) M.length (by have := h.len; omega) b hb
theorem cell_sz {i j : Nat} {x : Int} (hi : i ≤ 100) (hj : j ≤ 100) (hx : -100000 ≤ x ∧ x ≤ 100000) : (itoaB i).size ≤ 20 ∧ (itoaB j).size ≤ 20 ∧ (itoaB x).size ≤ 20 :=
  ⟨itoaB_size (by omega) (by omega), itoaB_size (by omega) (by omega), itoaB_size (by omega) (by omega)⟩
noncomputable def betTx (n : Int) (xs : List Int) (p : Int) : ByteArray := joinB (tabT (betR n xs p) (betR n xs p).length) ⟨#[32]⟩
theorem c_spec_BettiText (n : Int) (xs : List Int) (p : Int) : AC Tryd.prog 15 [.ag [int n, ints xs], int p] (.im (str (betTx n xs p))) := by
  refine AC.go (rs := [.tmp 4]) T_ok mixed Tryd.func15 rfl rfl rfl (by kernel_rfl) fun hl => ?_
  simp (maxSteps := 5000000) -dsimp only [↓gp, gq, reduceCtorEq, Nat.reduceEqDiff, Nat.reduceLT, Nat.reduceLeDiff, Nat.reduceAdd, Nat.reduceMul, Nat.reduceSub, Nat.reduceBEq, Int.reduceToNat, Int.reduceLE, Int.reduceLT, Int.reduceNeg, Nat.reduceMod, sid_ne1, sid_ne2, sid_inj, sid_mod, gT, TK.isInt, TK.agg, Array.toList]
  refine askK_of (c_spec_BettiTableF n xs p) ?_
  have hsq := betR_sq n xs p
  unfold betTx
  generalize betR n xs p = M at *
  have hl7 := hsq.len
  simp (maxSteps := 5000000) -dsimp only [↓gp, gq, reduceCtorEq, Nat.reduceEqDiff, Nat.reduceLT, Nat.reduceLeDiff, Nat.reduceAdd, Nat.reduceMul, Nat.reduceSub, Nat.reduceBEq, Int.reduceToNat, Int.reduceLE, Int.reduceLT, Int.reduceNeg, Nat.reduceMod, sid_ne1, sid_ne2, sid_inj, sid_mod, gT, TK.isInt, TK.agg, Array.toList]
  have hz : sL (tabT M 0) = [] := rfl
  refine loop_of (fun (za : Nat × Nat) s => match za with | (i, v) => s.sl 5 = .own 9 v ∧ s.rw 9 = ⟨v, .sli 9 1 false (sL (tabT M i))⟩ ∧ s.sl 6 = .own 12 1 ∧ s.rw 12 = ⟨1, .sli 22 1 false (iLL M)⟩ ∧ s.sl 7 = int i ∧ (i ≤ M.length)) (fun (i, v) => M.length - i) ((0, 1)) (by refine ⟨?_, ?_, ?_, ?_, ?_, by omega⟩ <;> (first | (simp (maxSteps := 5000000) -dsimp only [gr, Nat.reduceEqDiff, Nat.reduceLT, Nat.reduceAdd, Nat.reduceMod, Nat.reduceBEq, sid_mod, sid_ne1, sid_ne2, sid_inj, hz]; first | done | rfl | (simp; done)) | assumption | rfl)) ?_
  intro (i, v) sa ⟨h5a, r9a, h6a, r12a, h7a, hIa⟩
  have htl := tabT_len hl7 i
  simp (maxSteps := 5000000) -dsimp only [↓gp, gq, reduceCtorEq, Nat.reduceEqDiff, Nat.reduceLT, Nat.reduceLeDiff, Nat.reduceAdd, Nat.reduceMul, Nat.reduceSub, Nat.reduceBEq, Int.reduceToNat, Int.reduceLE, Int.reduceLT, Int.reduceNeg, Nat.reduceMod, sid_ne1, sid_ne2, sid_inj, sid_mod, gT, TK.isInt, TK.agg, Array.toList, h5a, r9a, h6a, r12a, h7a]
  refine ⟨fun h => ?_, fun h => ?_⟩
  · have hr := hsq.row i h
    have hz2 : sL (tabT M i ++ rowT i (M.getD i []) 0) = sL (tabT M i) := by rw [rowT, List.append_nil]
    refine loop_of (fun (zb : Nat × Nat) s => match zb with | (j, u) => s.sl 5 = .own 9 u ∧ s.rw 9 = ⟨u, .sli 9 1 false (sL (tabT M i ++ rowT i (M.getD i []) j))⟩ ∧ s.sl 6 = .own 12 1 ∧ s.rw 12 = ⟨1, .sli 22 1 false (iLL M)⟩ ∧ s.sl 7 = int i ∧ s.sl 8 = int j ∧ (j ≤ M.length)) (fun (j, u) => M.length - j) ((0, v)) (by refine ⟨?_, ?_, ?_, ?_, ?_, ?_, by omega⟩ <;> (first | (simp (maxSteps := 5000000) -dsimp only [gr, Nat.reduceEqDiff, Nat.reduceLT, Nat.reduceAdd, Nat.reduceMod, Nat.reduceBEq, sid_mod, sid_ne1, sid_ne2, sid_inj, h5a, r9a, h6a, r12a, h7a, hz2]; first | done | rfl | (simp; done)) | assumption | rfl)) ?_
    intro (j, u) sb ⟨h5b, r9b, h6b, r12b, h7b, h8b, hIb⟩
    have hrl := rowT_len i (M.getD i []) j
    have hx := hsq.small i j
    simp (maxSteps := 5000000) -dsimp only [↓gp, gq, reduceCtorEq, Nat.reduceEqDiff, Nat.reduceLT, Nat.reduceLeDiff, Nat.reduceAdd, Nat.reduceMul, Nat.reduceSub, Nat.reduceBEq, Int.reduceToNat, Int.reduceLE, Int.reduceLT, Int.reduceNeg, Nat.reduceMod, sid_ne1, sid_ne2, sid_inj, sid_mod, gT, TK.isInt, TK.agg, Array.toList, h5b, r9b, h6b, r12b, h7b, h8b, hr]
    refine ⟨fun h2 => ⟨h, h, h2, h2, fun h0 => ?_, fun h0 => ?_⟩, fun h2 => ?_⟩
    · have hx0 : (M.getD i []).getD j 0 ≠ 0 := by simpa using h0
      have hcs := cell_sz (i := i) (j := j) (by omega) (by omega) hx
      have e : rowT i (M.getD i []) (j + 1) = rowT i (M.getD i []) j ++ [cellT i j ((M.getD i []).getD j 0)] := by rw [rowT, if_neg hx0]
      refine ⟨by kernel_rfl, askK_of (c_spec_FormatIntG (n := (i : Nat)) (by omega) (by omega)) ?_⟩
      simp (maxSteps := 5000000) -dsimp only [↓gp, gq, reduceCtorEq, Nat.reduceEqDiff, Nat.reduceLT, Nat.reduceLeDiff, Nat.reduceAdd, Nat.reduceMul, Nat.reduceSub, Nat.reduceBEq, Int.reduceToNat, Int.reduceLE, Int.reduceLT, Int.reduceNeg, Nat.reduceMod, sid_ne1, sid_ne2, sid_inj, sid_mod, gT, TK.isInt, TK.agg, Array.toList, h5b, r9b, h6b, r12b, h7b, h8b, hr]
      refine ⟨by show _ + 1 ≤ _; omega, askK_of (c_spec_FormatIntG (n := (j : Nat)) (by omega) (by omega)) ?_⟩
      simp (maxSteps := 5000000) -dsimp only [↓gp, gq, reduceCtorEq, Nat.reduceEqDiff, Nat.reduceLT, Nat.reduceLeDiff, Nat.reduceAdd, Nat.reduceMul, Nat.reduceSub, Nat.reduceBEq, Int.reduceToNat, Int.reduceLE, Int.reduceLT, Int.reduceNeg, Nat.reduceMod, sid_ne1, sid_ne2, sid_inj, sid_mod, gT, TK.isInt, TK.agg, Array.toList, h5b, r9b, h6b, r12b, h7b, h8b, hr]
      have s1 : (itoaB (i : Int) ++ ⟨#[58]⟩).size ≤ 21 := by rw [ByteArray.size_append]; show _ + 1 ≤ 21; omega
      have s2 : (itoaB (i : Int) ++ ⟨#[58]⟩ ++ itoaB (j : Int)).size ≤ 41 := by rw [ByteArray.size_append]; omega
      have s3 : (itoaB (i : Int) ++ ⟨#[58]⟩ ++ itoaB (j : Int) ++ ⟨#[61]⟩).size ≤ 42 := by rw [ByteArray.size_append]; show _ + 1 ≤ 42; omega
      refine ⟨by omega, by show _ + 1 ≤ _; omega, h, h, h2, h2, askK_of (c_spec_FormatIntG (n := (M.getD i []).getD j 0) (by omega) (by omega)) ?_⟩
      simp (maxSteps := 5000000) -dsimp only [↓gp, gq, reduceCtorEq, Nat.reduceEqDiff, Nat.reduceLT, Nat.reduceLeDiff, Nat.reduceAdd, Nat.reduceMul, Nat.reduceSub, Nat.reduceBEq, Int.reduceToNat, Int.reduceLE, Int.reduceLT, Int.reduceNeg, Nat.reduceMod, sid_ne1, sid_ne2, sid_inj, sid_mod, gT, TK.isInt, TK.agg, Array.toList, h5b, r9b, h6b, r12b, h7b, h8b, hr]
      have e2 : sL (tabT M i ++ rowT i (M.getD i []) j) ++ sL [cellT i j ((M.getD i []).getD j 0)] = sL (tabT M i ++ rowT i (M.getD i []) (j + 1)) := by rw [e, ← List.append_assoc]; simp [sL]
      refine ⟨by omega, by rw [List.length_append]; omega, by kernel_rfl, again_of ((j + 1, u + 1)) (by refine ⟨?_, ?_, ?_, ?_, ?_, ?_, by dsimp only; omega⟩ <;> (first | (simp (maxSteps := 5000000) -dsimp only [gr, Nat.reduceEqDiff, Nat.reduceLT, Nat.reduceAdd, Nat.reduceMod, Nat.reduceBEq, sid_mod, sid_ne1, sid_ne2, sid_inj, h5b, r9b, h6b, r12b, h7b, h8b, wrap_nat h2 (show M.length ≤ 9223372036854775807 by omega), e, cellT, List.append_assoc]; first | done | rfl | (simp; done)) | assumption | rfl)) (by first | omega | (simp only; omega) | (dsimp only; omega) | (show _ < _; simp; omega))⟩
    · have hx0 : (M.getD i []).getD j 0 = 0 := by simpa using h0
      have e : rowT i (M.getD i []) (j + 1) = rowT i (M.getD i []) j := by rw [rowT, if_pos hx0]
      exact again_of ((j + 1, u)) (by refine ⟨?_, ?_, ?_, ?_, ?_, ?_, by dsimp only; omega⟩ <;> (first | (simp (maxSteps := 5000000) -dsimp only [gr, Nat.reduceEqDiff, Nat.reduceLT, Nat.reduceAdd, Nat.reduceMod, Nat.reduceBEq, sid_mod, sid_ne1, sid_ne2, sid_inj, h5b, r9b, h6b, r12b, h7b, h8b, wrap_nat h2 (by omega), e]; first | done | rfl | (simp; done)) | assumption | rfl)) (by first | omega | (simp only; omega) | (dsimp only; omega) | (show _ < _; simp; omega))
    · obtain rfl : j = M.length := by omega
      exact again_of ((i + 1, u)) (by refine ⟨?_, ?_, ?_, ?_, ?_, by dsimp only; omega⟩ <;> (first | (simp (maxSteps := 5000000) -dsimp only [gr, Nat.reduceEqDiff, Nat.reduceLT, Nat.reduceAdd, Nat.reduceMod, Nat.reduceBEq, sid_mod, sid_ne1, sid_ne2, sid_inj, h5a, r9a, h6a, r12a, h7a, h5b, r9b, h6b, r12b, h7b, h8b, wrap_nat h (by omega), tabT]; first | done | rfl | (simp; done)) | assumption | rfl)) (by first | omega | (simp only; omega) | (dsimp only; omega) | (show _ < _; simp; omega))
  · obtain rfl : i = M.length := by omega
    have hall := tabT_all hsq M.length hl7
    have hsz : ∀ k, k ≤ (tabT M M.length).length → (joinP (tabT M M.length) ⟨#[32]⟩ k).size ≤ 63 * k := joinP_sizeK (m := 62) (fun k hk => hall _ (getD_mem ⟨#[]⟩ hk)) (Nat.le_refl 1)
    refine askK_of (c_spec_Join _ ⟨#[32]⟩ (by omega) (fun k hk => ?_)) ?_
    · have := hsz k hk
      have h1 : (⟨#[32]⟩ : ByteArray).size = 1 := rfl
      omega
    · have e := joinP_eq (tabT M M.length) ⟨#[32]⟩ (tabT M M.length).length (Nat.le_refl _)
      rw [List.take_length] at e
      rw [e]
      simp (maxSteps := 5000000) -dsimp only [↓gp, gq, reduceCtorEq, Nat.reduceEqDiff, Nat.reduceLT, Nat.reduceLeDiff, Nat.reduceAdd, Nat.reduceMul, Nat.reduceSub, Nat.reduceBEq, Int.reduceToNat, Int.reduceLE, Int.reduceLT, Int.reduceNeg, Nat.reduceMod, sid_ne1, sid_ne2, sid_inj, sid_mod, gT, TK.isInt, TK.agg, Array.toList, h5a, r9a, h6a, r12a, h7a]
theorem c_impl_BettiText (n : Int) (xs : List Int) (p : Int) : AC Tryd.prog 16 [.ag [int n, ints xs], int p] (.im (str (betTx n xs p))) := by
  refine AC.go (rs := [.tmp 4]) T_ok mixed Tryd.func16 rfl rfl rfl (by kernel_rfl) fun hl => ?_
  simp (maxSteps := 5000000) -dsimp only [↓gp, gq, reduceCtorEq, Nat.reduceEqDiff, Nat.reduceLT, Nat.reduceLeDiff, Nat.reduceAdd, Nat.reduceMul, Nat.reduceSub, Nat.reduceBEq, Int.reduceToNat, Int.reduceLE, Int.reduceLT, Int.reduceNeg, Nat.reduceMod, sid_ne1, sid_ne2, sid_inj, sid_mod, gT, TK.isInt, TK.agg, Array.toList]
  refine askK_of (c_impl_BettiTableF n xs p) ?_
  have hsq := betR_sq n xs p
  unfold betTx
  generalize betR n xs p = M at *
  have hl7 := hsq.len
  simp (maxSteps := 5000000) -dsimp only [↓gp, gq, reduceCtorEq, Nat.reduceEqDiff, Nat.reduceLT, Nat.reduceLeDiff, Nat.reduceAdd, Nat.reduceMul, Nat.reduceSub, Nat.reduceBEq, Int.reduceToNat, Int.reduceLE, Int.reduceLT, Int.reduceNeg, Nat.reduceMod, sid_ne1, sid_ne2, sid_inj, sid_mod, gT, TK.isInt, TK.agg, Array.toList]
  have hz : sL (tabT M 0) = [] := rfl
  refine loop_of (fun (za : Nat × Nat) s => match za with | (i, v) => s.sl 5 = .own 5 v ∧ s.rw 5 = ⟨v, .sli 9 1 false (sL (tabT M i))⟩ ∧ s.sl 12 = .own 12 1 ∧ s.rw 12 = ⟨1, .sli 22 1 false (iLL M)⟩ ∧ s.sl 13 = int M.length ∧ s.sl 14 = int i ∧ (i ≤ M.length)) (fun (i, v) => M.length - i) ((0, 1)) (by refine ⟨?_, ?_, ?_, ?_, ?_, ?_, by omega⟩ <;> (first | (simp (maxSteps := 5000000) -dsimp only [gr, Nat.reduceEqDiff, Nat.reduceLT, Nat.reduceAdd, Nat.reduceMod, Nat.reduceBEq, sid_mod, sid_ne1, sid_ne2, sid_inj, hz]; first | done | rfl | (simp; done)) | assumption | rfl)) ?_
  intro (i, v) sa ⟨h5a, r5a, h12a, r12a, h13a, h14a, hIa⟩
  have htl := tabT_len hl7 i
  simp (maxSteps := 5000000) -dsimp only [↓gp, gq, reduceCtorEq, Nat.reduceEqDiff, Nat.reduceLT, Nat.reduceLeDiff, Nat.reduceAdd, Nat.reduceMul, Nat.reduceSub, Nat.reduceBEq, Int.reduceToNat, Int.reduceLE, Int.reduceLT, Int.reduceNeg, Nat.reduceMod, sid_ne1, sid_ne2, sid_inj, sid_mod, gT, TK.isInt, TK.agg, Array.toList, h5a, r5a, h12a, r12a, h13a, h14a]
  refine ⟨fun h => ⟨h, h, ?_⟩, fun h => ?_⟩
  · have hr := hsq.row i h
    have hz2 : sL (tabT M i ++ rowT i (M.getD i []) 0) = sL (tabT M i) := by rw [rowT, List.append_nil]
    refine loop_of (fun (zb : Nat × Nat) s => match zb with | (j, u) => s.sl 5 = .own 5 u ∧ s.rw 5 = ⟨u, .sli 9 1 false (sL (tabT M i ++ rowT i (M.getD i []) j))⟩ ∧ s.sl 6 = int i ∧ s.sl 12 = .own 12 1 ∧ s.rw 12 = ⟨1, .sli 22 1 false (iLL M)⟩ ∧ s.sl 13 = int M.length ∧ s.sl 14 = int i ∧ s.sl 19 = .sl true 1 (iL (M.getD i [])) ∧ s.sl 20 = int M.length ∧ s.sl 21 = int j ∧ (j ≤ M.length)) (fun (j, u) => M.length - j) ((0, v)) (by refine ⟨?_, ?_, ?_, ?_, ?_, ?_, ?_, ?_, ?_, ?_, by omega⟩ <;> (first | (simp (maxSteps := 5000000) -dsimp only [gr, Nat.reduceEqDiff, Nat.reduceLT, Nat.reduceAdd, Nat.reduceMod, Nat.reduceBEq, sid_mod, sid_ne1, sid_ne2, sid_inj, h5a, r5a, h12a, r12a, h13a, h14a, hr, hz2]; first | done | rfl | (simp; done)) | assumption | rfl)) ?_
    intro (j, u) sb ⟨h5b, r5b, h6b, h12b, r12b, h13b, h14b, h19b, h20b, h21b, hIb⟩
    have hrl := rowT_len i (M.getD i []) j
    have hx := hsq.small i j
    simp (maxSteps := 5000000) -dsimp only [↓gp, gq, reduceCtorEq, Nat.reduceEqDiff, Nat.reduceLT, Nat.reduceLeDiff, Nat.reduceAdd, Nat.reduceMul, Nat.reduceSub, Nat.reduceBEq, Int.reduceToNat, Int.reduceLE, Int.reduceLT, Int.reduceNeg, Nat.reduceMod, sid_ne1, sid_ne2, sid_inj, sid_mod, gT, TK.isInt, TK.agg, Array.toList, h5b, r5b, h6b, h12b, r12b, h13b, h14b, h19b, h20b, h21b, hr]
    refine ⟨fun h2 => ⟨h2, h2, fun h0 => ?_, fun h0 => ?_⟩, fun h2 => ?_⟩
    · have hx0 : (M.getD i []).getD j 0 ≠ 0 := by simpa using h0
      have hcs := cell_sz (i := i) (j := j) (by omega) (by omega) hx
      have e : rowT i (M.getD i []) (j + 1) = rowT i (M.getD i []) j ++ [cellT i j ((M.getD i []).getD j 0)] := by rw [rowT, if_neg hx0]
      have s1 : (itoaB (i : Int) ++ ⟨#[58]⟩).size ≤ 21 := by rw [ByteArray.size_append]; show _ + 1 ≤ 21; omega
      have s2 : (itoaB (i : Int) ++ ⟨#[58]⟩ ++ itoaB (j : Int)).size ≤ 41 := by rw [ByteArray.size_append]; omega
      have s3 : (itoaB (i : Int) ++ ⟨#[58]⟩ ++ itoaB (j : Int) ++ ⟨#[61]⟩).size ≤ 42 := by rw [ByteArray.size_append]; show _ + 1 ≤ 42; omega
      refine askK_of (c_impl_FormatInt (n := (i : Nat)) (by omega) (by omega)) ?_
      simp (maxSteps := 5000000) -dsimp only [↓gp, gq, reduceCtorEq, Nat.reduceEqDiff, Nat.reduceLT, Nat.reduceLeDiff, Nat.reduceAdd, Nat.reduceMul, Nat.reduceSub, Nat.reduceBEq, Int.reduceToNat, Int.reduceLE, Int.reduceLT, Int.reduceNeg, Nat.reduceMod, sid_ne1, sid_ne2, sid_inj, sid_mod, gT, TK.isInt, TK.agg, Array.toList, h5b, r5b, h6b, h12b, r12b, h13b, h14b, h19b, h20b, h21b, hr]
      refine ⟨by show _ + 1 ≤ _; omega, askK_of (c_impl_FormatInt (n := (j : Nat)) (by omega) (by omega)) ?_⟩
      simp (maxSteps := 5000000) -dsimp only [↓gp, gq, reduceCtorEq, Nat.reduceEqDiff, Nat.reduceLT, Nat.reduceLeDiff, Nat.reduceAdd, Nat.reduceMul, Nat.reduceSub, Nat.reduceBEq, Int.reduceToNat, Int.reduceLE, Int.reduceLT, Int.reduceNeg, Nat.reduceMod, sid_ne1, sid_ne2, sid_inj, sid_mod, gT, TK.isInt, TK.agg, Array.toList, h5b, r5b, h6b, h12b, r12b, h13b, h14b, h19b, h20b, h21b, hr]
      refine ⟨by omega, by show _ + 1 ≤ _; omega, askK_of (c_impl_FormatInt (n := (M.getD i []).getD j 0) (by omega) (by omega)) ?_⟩
      simp (maxSteps := 5000000) -dsimp only [↓gp, gq, reduceCtorEq, Nat.reduceEqDiff, Nat.reduceLT, Nat.reduceLeDiff, Nat.reduceAdd, Nat.reduceMul, Nat.reduceSub, Nat.reduceBEq, Int.reduceToNat, Int.reduceLE, Int.reduceLT, Int.reduceNeg, Nat.reduceMod, sid_ne1, sid_ne2, sid_inj, sid_mod, gT, TK.isInt, TK.agg, Array.toList, h5b, r5b, h6b, h12b, r12b, h13b, h14b, h19b, h20b, h21b, hr]
      refine ⟨by omega, by rw [List.length_append]; omega, again_of ((j + 1, u + 1)) (by refine ⟨?_, ?_, ?_, ?_, ?_, ?_, ?_, ?_, ?_, ?_, by dsimp only; omega⟩ <;> (first | (simp (maxSteps := 5000000) -dsimp only [gr, Nat.reduceEqDiff, Nat.reduceLT, Nat.reduceAdd, Nat.reduceMod, Nat.reduceBEq, sid_mod, sid_ne1, sid_ne2, sid_inj, h5b, r5b, h6b, h12b, r12b, h13b, h14b, h19b, h20b, h21b, wrap_nat h2 (show M.length ≤ 9223372036854775807 by omega), e, cellT, List.append_assoc, hr]; first | done | rfl | (simp; done)) | assumption | rfl)) (by first | omega | (simp only; omega) | (dsimp only; omega) | (show _ < _; simp; omega))⟩
    · have hx0 : (M.getD i []).getD j 0 = 0 := by simpa using h0
      have e : rowT i (M.getD i []) (j + 1) = rowT i (M.getD i []) j := by rw [rowT, if_pos hx0]
      exact again_of ((j + 1, u)) (by refine ⟨?_, ?_, ?_, ?_, ?_, ?_, ?_, ?_, ?_, ?_, by dsimp only; omega⟩ <;> (first | (simp (maxSteps := 5000000) -dsimp only [gr, Nat.reduceEqDiff, Nat.reduceLT, Nat.reduceAdd, Nat.reduceMod, Nat.reduceBEq, sid_mod, sid_ne1, sid_ne2, sid_inj, h5b, r5b, h6b, h12b, r12b, h13b, h14b, h19b, h20b, h21b, wrap_nat h2 (by omega), e, hr]; first | done | rfl | (simp; done)) | assumption | rfl)) (by first | omega | (simp only; omega) | (dsimp only; omega) | (show _ < _; simp; omega))
    · obtain rfl : j = M.length := by omega
      exact again_of ((i + 1, u)) (by refine ⟨?_, ?_, ?_, ?_, ?_, ?_, by dsimp only; omega⟩ <;> (first | (simp (maxSteps := 5000000) -dsimp only [gr, Nat.reduceEqDiff, Nat.reduceLT, Nat.reduceAdd, Nat.reduceMod, Nat.reduceBEq, sid_mod, sid_ne1, sid_ne2, sid_inj, h5a, r5a, h12a, r12a, h13a, h14a, h5b, r5b, h6b, h12b, r12b, h13b, h14b, h19b, h20b, h21b, wrap_nat h (by omega), tabT]; first | done | rfl | (simp; done)) | assumption | rfl)) (by first | omega | (simp only; omega) | (dsimp only; omega) | (show _ < _; simp; omega))
  · obtain rfl : i = M.length := by omega
    have hall := tabT_all hsq M.length hl7
    have hsz : ∀ k, k ≤ (tabT M M.length).length → (joinP (tabT M M.length) ⟨#[32]⟩ k).size ≤ 63 * k := joinP_sizeK (m := 62) (fun k hk => hall _ (getD_mem ⟨#[]⟩ hk)) (Nat.le_refl 1)
    have hjs := hsz _ (Nat.le_refl _)
    rw [joinP_eq _ _ _ (Nat.le_refl _), List.take_length] at hjs
    refine askK_of (c_strings_Join (tabT M M.length) ⟨#[32]⟩ (by omega) (by omega)) ?_
    simp (maxSteps := 5000000) -dsimp only [↓gp, gq, reduceCtorEq, Nat.reduceEqDiff, Nat.reduceLT, Nat.reduceLeDiff, Nat.reduceAdd, Nat.reduceMul, Nat.reduceSub, Nat.reduceBEq, Int.reduceToNat, Int.reduceLE, Int.reduceLT, Int.reduceNeg, Nat.reduceMod, sid_ne1, sid_ne2, sid_inj, sid_mod, gT, TK.isInt, TK.agg, Array.toList, h5a, r5a, h12a, r12a, h13a, h14a]
end Go.Proofs.YtmpjajhklilleaaDoor
