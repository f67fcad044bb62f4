/- DERIVED by an AI agent. -/
import Derived.Test.YtnfpeinbdfmlnaaQ5
import Derived.Test.YtnfpeinbdfmlnaaP1
import Derived.Test.YtnfpeinbdfmlnaaQ2
namespace Go.Proofs.Ytnfpeinbdfmlnaa
open Go.Abs
set_option linter.unusedSimpArgs false
set_option linter.unusedVariables false

theorem c_spec_DualOf (m : Nat) (xs : List Int) (h : isCx (m : Int) xs = true) : AC Try.prog 79 [.ag [int m, ints xs]] (.tup [.ag [.im (int m), .fr 3 1 (iL (duaL m xs))], .im (bool true)]) := by
  refine AC.go (rs := [.cell 2 57, .tmp 3]) T_ok mixed Try.func79 rfl rfl rfl (by kernel_rfl) fun hl => ?_
  simp only [lens_cons, lens_nil, and_true, lens2_ag2, lens1_v, lens1_iL, true_and] at hl
  have hml := misL_len m xs
  have hmo := ofN_length (misL m xs)
  simp (maxSteps := 5000000) -dsimp only [↓gp, gq, reduceCtorEq, Nat.reduceEqDiff, Nat.reduceLT, Nat.reduceLeDiff, Nat.reduceAdd, Nat.reduceMul, Nat.reduceSub, Nat.reduceBEq, Int.reduceToNat, Int.reduceLE, Int.reduceLT, Int.reduceNeg, Nat.reduceMod, sid_ne1, sid_ne2, sid_inj, sid_mod, gT, TK.isInt, TK.agg, Array.toList]
  refine askK_of (c_spec_IsComplex m xs) ?_
  simp (maxSteps := 5000000) -dsimp only [↓gp, gq, reduceCtorEq, Nat.reduceEqDiff, Nat.reduceLT, Nat.reduceLeDiff, Nat.reduceAdd, Nat.reduceMul, Nat.reduceSub, Nat.reduceBEq, Int.reduceToNat, Int.reduceLE, Int.reduceLT, Int.reduceNeg, Nat.reduceMod, sid_ne1, sid_ne2, sid_inj, sid_mod, gT, TK.isInt, TK.agg, Array.toList, h]
  refine askK_of (c_spec_MissingSets m xs) ?_
  obtain ⟨h1, h6, _⟩ := isCx_iff.1 h
  unfold duaL cpsL
  have hok : okS ((ofN (misL m xs)).map (compl m)) := by
    intro x hx
    obtain ⟨y, hy, rfl⟩ := List.mem_map.1 hx
    unfold ofN at hy
    obtain ⟨s, hs, rfl⟩ := List.mem_map.1 hy
    have h64 := two_pow_le (m := m) (by omega)
    obtain ⟨⟨s1, s2⟩, _⟩ := mem_extN.1 hs
    have hin : inSet m s = true := by
      unfold misF at s2
      simp only [Bool.and_eq_true] at s2
      exact s2.2.1
    have : s < 2 ^ m := by
      unfold inSet at hin
      rw [decide_eq_true_iff, pow_nat] at hin
      omega
    rw [compl_nat (by omega) this]
    omega
  generalize ofN (misL m xs) = ys at *
  simp (maxSteps := 5000000) -dsimp only [↓gp, gq, reduceCtorEq, Nat.reduceEqDiff, Nat.reduceLT, Nat.reduceLeDiff, Nat.reduceAdd, Nat.reduceMul, Nat.reduceSub, Nat.reduceBEq, Int.reduceToNat, Int.reduceLE, Int.reduceLT, Int.reduceNeg, Nat.reduceMod, sid_ne1, sid_ne2, sid_inj, sid_mod, gT, TK.isInt, TK.agg, Array.toList]
  have hmap : ∀ k, k < ys.length → (ys.take (k + 1)).map (compl m) = (ys.take k).map (compl m) ++ [compl m (ys.getD k 0)] := fun k h => by rw [take_snoc 0 h]; simp
  refine loop_of (fun (za : Nat × Nat × Nat) s => match za with | (k, v, w) => s.sl 1 = .ref 1 1 0 ∧ s.rw 1 = ⟨1, .box 57 [int (m : Nat), ints xs]⟩ ∧ s.sl 2 = .ref 2 1 0 ∧ s.rw 2 = ⟨1, .box 57 [int 0, .v (.slice none 0 0)]⟩ ∧ s.sl 3 = bool false ∧ s.sl 4 = .own 12 w ∧ s.rw 12 = ⟨w, .sli 3 1 false (iL ys)⟩ ∧ s.sl 5 = .own 13 v ∧ s.rw 13 = ⟨v, .sli 3 1 false (iL ((ys.take k).map (compl m)))⟩ ∧ s.sl 6 = int k ∧ (k ≤ ys.length)) (fun (k, v, w) => ys.length - k) ((0, 1, 1)) (by refine ⟨?_, ?_, ?_, ?_, ?_, ?_, ?_, ?_, ?_, ?_, by simp⟩ <;> (first | (simp (maxSteps := 5000000) -dsimp only [gr, Nat.reduceEqDiff, Nat.reduceLT, Nat.reduceAdd, Nat.reduceMod, Nat.reduceBEq, sid_mod, sid_ne1, sid_ne2, sid_inj]; first | done | rfl | (simp; done)) | assumption | rfl)) ?_
  intro (k, v, w) sa ⟨h1a, r1a, h2a, r2a, h3a, h4a, r12a, h5a, r13a, h6a, hIa⟩
  simp (maxSteps := 5000000) -dsimp only [↓gp, gq, reduceCtorEq, Nat.reduceEqDiff, Nat.reduceLT, Nat.reduceLeDiff, Nat.reduceAdd, Nat.reduceMul, Nat.reduceSub, Nat.reduceBEq, Int.reduceToNat, Int.reduceLE, Int.reduceLT, Int.reduceNeg, Nat.reduceMod, sid_ne1, sid_ne2, sid_inj, sid_mod, gT, TK.isInt, TK.agg, Array.toList, h1a, r1a, h2a, r2a, h3a, h4a, r12a, h5a, r13a, h6a]
  refine ⟨fun hk => ⟨by kernel_rfl, hk, hk, askK_of (c_spec_ComplementOf _ _) ?_⟩, fun hk => ?_⟩
  · simp (maxSteps := 5000000) -dsimp only [↓gp, gq, reduceCtorEq, Nat.reduceEqDiff, Nat.reduceLT, Nat.reduceLeDiff, Nat.reduceAdd, Nat.reduceMul, Nat.reduceSub, Nat.reduceBEq, Int.reduceToNat, Int.reduceLE, Int.reduceLT, Int.reduceNeg, Nat.reduceMod, sid_ne1, sid_ne2, sid_inj, sid_mod, gT, TK.isInt, TK.agg, Array.toList, h1a, r1a, h2a, r2a, h3a, h4a, r12a, h5a, r13a, h6a]
    have hle : ((ys.take k).map (compl m)).length ≤ 448 := by rw [List.length_map, List.length_take]; omega
    refine ⟨by omega, by kernel_rfl, ?_⟩
    exact again_of ((k + 1, v + 1, w)) (by refine ⟨?_, ?_, ?_, ?_, ?_, ?_, ?_, ?_, ?_, ?_, by dsimp only; omega⟩ <;> (first | (simp (maxSteps := 5000000) -dsimp only [gr, Nat.reduceEqDiff, Nat.reduceLT, Nat.reduceAdd, Nat.reduceMod, Nat.reduceBEq, sid_mod, sid_ne1, sid_ne2, sid_inj, h1a, r1a, h2a, r2a, h3a, h4a, r12a, h5a, r13a, h6a, wrap_nat hk (by omega), hmap k hk]; first | done | rfl | (simp; done)) | assumption | rfl)) (by first | omega | (simp only; omega) | (dsimp only; omega) | (show _ < _; simp; omega))
  · have : k = ys.length := by omega
    subst this
    have ht : ys.take ys.length = ys := List.take_length
    rw [ht] at r13a ⊢
    refine askK_of (c_spec_l3Make m _ hok) ?_
    simp (maxSteps := 5000000) -dsimp only [↓gp, gq, reduceCtorEq, Nat.reduceEqDiff, Nat.reduceLT, Nat.reduceLeDiff, Nat.reduceAdd, Nat.reduceMul, Nat.reduceSub, Nat.reduceBEq, Int.reduceToNat, Int.reduceLE, Int.reduceLT, Int.reduceNeg, Nat.reduceMod, sid_ne1, sid_ne2, sid_inj, sid_mod, gT, TK.isInt, TK.agg, Array.toList, h1a, r1a, h2a, r2a, h3a, h4a, r12a, h5a, r13a, h6a]
theorem c_spec_l5Link (n : Int) (xs : List Int) (w : Nat) (hs : w < 64) (hx : okS xs) (hlen : xs.length ≤ 1000) : AC Try.prog 82 [.ag [int n, ints xs], int w] (.ag [.im (int n), .fr 3 1 (iL (ofN (extN (inF (lnkL xs w)) true)))]) := by
  refine AC.go (rs := [.cell 4 57]) T_ok mixed Try.func82 rfl rfl rfl (by kernel_rfl) fun hl => ?_
  simp only [lens_cons, lens_nil, and_true, lens2_ag2, lens1_v, lens1_iL, true_and] at hl
  simp (maxSteps := 5000000) -dsimp only [↓gp, gq, reduceCtorEq, Nat.reduceEqDiff, Nat.reduceLT, Nat.reduceLeDiff, Nat.reduceAdd, Nat.reduceMul, Nat.reduceSub, Nat.reduceBEq, Int.reduceToNat, Int.reduceLE, Int.reduceLT, Int.reduceNeg, Nat.reduceMod, sid_ne1, sid_ne2, sid_inj, sid_mod, gT, TK.isInt, TK.agg, Array.toList]
  have hlk : lnkL xs w = lnkL (xs.take xs.length) w := by rw [List.take_length]
  refine loop_of (fun (za : Nat × Nat) s => match za with | (k, v) => s.sl 1 = int w ∧ s.sl 2 = .ref 2 1 0 ∧ s.rw 2 = ⟨1, .box 57 [int n, ints xs]⟩ ∧ s.sl 4 = .ref 4 1 0 ∧ s.rw 4 = ⟨1, .box 57 [int 0, .v (.slice none 0 0)]⟩ ∧ s.sl 5 = .own 7 v ∧ s.rw 7 = ⟨v, .sli 3 1 false (iL (lnkL (xs.take k) w))⟩ ∧ s.sl 6 = int k ∧ (k ≤ xs.length)) (fun (k, v) => xs.length - k) ((0, 1)) (by refine ⟨?_, ?_, ?_, ?_, ?_, ?_, ?_, ?_, by simp⟩ <;> (first | (simp (maxSteps := 5000000) -dsimp only [gr, Nat.reduceEqDiff, Nat.reduceLT, Nat.reduceAdd, Nat.reduceMod, Nat.reduceBEq, sid_mod, sid_ne1, sid_ne2, sid_inj]; first | done | rfl | (simp; done)) | assumption | rfl)) ?_
  intro (k, v) sa ⟨h1a, h2a, r2a, h4a, r4a, h5a, r7a, h6a, hIa⟩
  have hll : (lnkL (xs.take k) w).length ≤ 1000 := by
    unfold lnkL
    rw [List.length_map]
    have := List.length_filter_le (fun x => iand .i64 x (w : Int) == (w : Int)) (xs.take k)
    rw [List.length_take] at this
    omega
  simp (maxSteps := 5000000) -dsimp only [↓gp, gq, reduceCtorEq, Nat.reduceEqDiff, Nat.reduceLT, Nat.reduceLeDiff, Nat.reduceAdd, Nat.reduceMul, Nat.reduceSub, Nat.reduceBEq, Int.reduceToNat, Int.reduceLE, Int.reduceLT, Int.reduceNeg, Nat.reduceMod, sid_ne1, sid_ne2, sid_inj, sid_mod, gT, TK.isInt, TK.agg, Array.toList, h1a, h2a, r2a, h4a, r4a, h5a, r7a, h6a]
  refine ⟨fun h => ⟨h, h, ?_⟩, fun h => ?_⟩
  · have hxk := okS_at hx h
    have hwx : IntKind.i64.wrap (xs.getD k 0 - (w : Int)) = xs.getD k 0 - (w : Int) := wrap_id (by omega) (by omega)
    refine ⟨fun hy => ?_, fun hy => ?_⟩
    · have e : lnkL (xs.take (k + 1)) w = lnkL (xs.take k) w ++ [xs.getD k 0 - (w : Int)] := by
        unfold lnkL
        rw [take_snoc 0 h, List.filter_append, List.map_append, List.filter_cons, if_pos hy]; rfl
      exact ⟨h, h, by omega, again_of ((k + 1, v + 1)) (by refine ⟨?_, ?_, ?_, ?_, ?_, ?_, ?_, ?_, by dsimp only; omega⟩ <;> (first | (simp (maxSteps := 5000000) -dsimp only [gr, Nat.reduceEqDiff, Nat.reduceLT, Nat.reduceAdd, Nat.reduceMod, Nat.reduceBEq, sid_mod, sid_ne1, sid_ne2, sid_inj, h1a, h2a, r2a, h4a, r4a, h5a, r7a, h6a, wrap_nat h (by omega), hwx, e]; first | done | rfl | (simp; done)) | assumption | rfl)) (by first | omega | (simp only; omega) | (dsimp only; omega) | (show _ < _; simp; omega))⟩
    · have e : lnkL (xs.take (k + 1)) w = lnkL (xs.take k) w := by
        unfold lnkL
        rw [take_snoc 0 h, List.filter_append, List.map_append, List.filter_cons, if_neg (by rw [hy]; decide)]; simp
      exact again_of ((k + 1, v)) (by refine ⟨?_, ?_, ?_, ?_, ?_, ?_, ?_, ?_, by dsimp only; omega⟩ <;> (first | (simp (maxSteps := 5000000) -dsimp only [gr, Nat.reduceEqDiff, Nat.reduceLT, Nat.reduceAdd, Nat.reduceMod, Nat.reduceBEq, sid_mod, sid_ne1, sid_ne2, sid_inj, h1a, h2a, r2a, h4a, r4a, h5a, r7a, h6a, wrap_nat h (by omega), e]; first | done | rfl | (simp; done)) | assumption | rfl)) (by first | omega | (simp only; omega) | (dsimp only; omega) | (show _ < _; simp; omega))
  · have : k = xs.length := by omega
    subst this
    rw [hlk]
    refine askK_of (c_spec_l3Make n _ ?_) ?_
    · intro x hx'
      unfold lnkL at hx'
      obtain ⟨y, hy, rfl⟩ := List.mem_map.1 hx'
      obtain ⟨a, b⟩ := List.mem_filter.1 hy
      rw [List.take_length] at a
      have := hx y a
      rw [beq_iff_eq] at b
      have h2 : iand .i64 y (w : Int) = ((y.toNat &&& w : Nat) : Int) := by
        rw [← iand_nat (by omega) (by omega)]; congr 1; omega
      have h3 : y.toNat &&& w ≤ y.toNat := Nat.and_le_left
      omega
    · simp (maxSteps := 5000000) -dsimp only [↓gp, gq, reduceCtorEq, Nat.reduceEqDiff, Nat.reduceLT, Nat.reduceLeDiff, Nat.reduceAdd, Nat.reduceMul, Nat.reduceSub, Nat.reduceBEq, Int.reduceToNat, Int.reduceLE, Int.reduceLT, Int.reduceNeg, Nat.reduceMod, sid_ne1, sid_ne2, sid_inj, sid_mod, gT, TK.isInt, TK.agg, Array.toList, h1a, h2a, r2a, h4a, r4a, h5a, r7a, h6a]
theorem c_spec_DualTable (n : Int) (xs : List Int) (p : Int) : AC Try.prog 41 [.ag [int n, ints xs], int p] (.tb 31 3 ((dtR n xs p).map iL)) := by
  refine AC.go (rs := [.tmp 4]) T_ok mixed Try.func41 rfl rfl rfl (by kernel_rfl) fun hl => ?_
  simp only [lens_cons, lens_nil, and_true, lens2_ag2, lens1_v, lens1_iL, true_and] at hl
  simp (maxSteps := 5000000) -dsimp only [↓gp, gq, reduceCtorEq, Nat.reduceEqDiff, Nat.reduceLT, Nat.reduceLeDiff, Nat.reduceAdd, Nat.reduceMul, Nat.reduceSub, Nat.reduceBEq, Int.reduceToNat, Int.reduceLE, Int.reduceLT, Int.reduceNeg, Nat.reduceMod, sid_ne1, sid_ne2, sid_inj, sid_mod, gT, TK.isInt, TK.agg, Array.toList]
  refine askK_of (c_spec_DimOf n xs) ?_
  have hdt := dimR_test n xs
  simp (maxSteps := 5000000) -dsimp only [↓gp, gq, reduceCtorEq, Nat.reduceEqDiff, Nat.reduceLT, Nat.reduceLeDiff, Nat.reduceAdd, Nat.reduceMul, Nat.reduceSub, Nat.reduceBEq, Int.reduceToNat, Int.reduceLE, Int.reduceLT, Int.reduceNeg, Nat.reduceMod, sid_ne1, sid_ne2, sid_inj, sid_mod, gT, TK.isInt, TK.agg, Array.toList, hdt]
  refine ⟨fun hh => askK_of (c_spec_IsFieldPrime p) ?_, fun hh => ?_⟩
  · have hh : hasF n xs = true := by simpa using hh
    simp (maxSteps := 5000000) -dsimp only [↓gp, gq, reduceCtorEq, Nat.reduceEqDiff, Nat.reduceLT, Nat.reduceLeDiff, Nat.reduceAdd, Nat.reduceMul, Nat.reduceSub, Nat.reduceBEq, Int.reduceToNat, Int.reduceLE, Int.reduceLT, Int.reduceNeg, Nat.reduceMod, sid_ne1, sid_ne2, sid_inj, sid_mod, gT, TK.isInt, TK.agg, Array.toList]
    refine ⟨fun hp => ?_, fun hp => ?_⟩
    · rw [dtR_no (fun h => by rw [h.2] at hp; cases hp)]
      exact out2_tb0 (by simp (maxSteps := 5000000) -dsimp only [gr, Nat.reduceEqDiff, Nat.reduceLT, Nat.reduceAdd, Nat.reduceMod, Nat.reduceBEq, sid_mod, sid_ne1, sid_ne2, sid_inj]) (by decide)
    · have hp : isP p = true := by simpa using hp
      have hcx := (hasF_iff.1 hh).1
      obtain ⟨h1, h6, _⟩ := isCx_iff.1 hcx
      have hxo := cx_ok hcx
      have hxl := cx_len hcx
      obtain ⟨m, rfl⟩ : ∃ m : Nat, n = m := ⟨n.toNat, by omega⟩
      have hb : dtR m xs p = dtT (dualF m (faceB xs)) p m := if_pos ⟨hh, hp⟩
      rw [hb]
      have h64 := two_pow_le (m := m) (by omega)
      have hm1 : IntKind.i64.wrap ((m : Int) + 1) = ((m + 1 : Nat) : Int) := by rw [wrap_id (by omega) (by omega)]; rfl
      refine loop_gin (k := 15) (v := 1) (e := 31) (e2 := 3) (by simp (maxSteps := 5000000) -dsimp only [gr, Nat.reduceEqDiff, Nat.reduceLT, Nat.reduceAdd, Nat.reduceMod, Nat.reduceBEq, sid_mod, sid_ne1, sid_ne2, sid_inj]) (fun j => by simp (maxSteps := 5000000) -dsimp only [gr, Nat.reduceEqDiff, Nat.reduceLT, Nat.reduceAdd, Nat.reduceMod, Nat.reduceBEq, sid_mod, sid_ne1, sid_ne2, sid_inj]) (fun (i : Nat) s => s.sl 1 = int p ∧ s.sl 2 = .ref 2 1 0 ∧ s.rw 2 = ⟨1, .box 57 [int (m : Nat), ints xs]⟩ ∧ s.sl 5 = .own 15 (i + 1) ∧ s.sl 6 = int m ∧ s.sl 7 = int i ∧ (i ≤ m + 1 ∧ TabG s.rw 15 (i + 1) 31 3 i (List.replicate i (List.replicate (m + 1) 0)))) (fun i => m + 1 - i) (0) (fun sX htX hslX hoX => (by refine ⟨?_, ?_, ?_, ?_, ?_, ?_, ⟨by omega, htX⟩⟩ <;> (first | (simp (maxSteps := 5000000) -dsimp only [gr, Nat.reduceEqDiff, Nat.reduceLT, Nat.reduceAdd, Nat.reduceMod, Nat.reduceBEq, sid_mod, sid_ne1, sid_ne2, sid_inj, hslX, hoX]; first | done | rfl | (simp; done)) | assumption | rfl))) ?_
      intro i sa ⟨h1a, h2a, r2a, h5a, h6a, h7a, hIa⟩
      obtain ⟨hi, ht⟩ := hIa
      simp (maxSteps := 5000000) -dsimp only [↓gp, gq, reduceCtorEq, Nat.reduceEqDiff, Nat.reduceLT, Nat.reduceLeDiff, Nat.reduceAdd, Nat.reduceMul, Nat.reduceSub, Nat.reduceBEq, Int.reduceToNat, Int.reduceLE, Int.reduceLT, Int.reduceNeg, Nat.reduceMod, sid_ne1, sid_ne2, sid_inj, sid_mod, gT, TK.isInt, TK.agg, Array.toList, h1a, h2a, r2a, h5a, h6a, h7a, hm1, Int.toNat_natCast]
      refine ⟨fun h => ⟨by omega, by omega, ?_⟩, fun h => ?_⟩
      · refine orB_r ?_
        simp (maxSteps := 5000000) -dsimp only [↓gp, gq, reduceCtorEq, Nat.reduceEqDiff, Nat.reduceLT, Nat.reduceLeDiff, Nat.reduceAdd, Nat.reduceMul, Nat.reduceSub, Nat.reduceBEq, Int.reduceToNat, Int.reduceLE, Int.reduceLT, Int.reduceNeg, Nat.reduceMod, sid_ne1, sid_ne2, sid_inj, sid_mod, gT, TK.isInt, TK.agg, Array.toList, h1a, h2a, r2a, h5a, h6a, h7a, ht.top]
        refine ⟨by omega, ?_⟩
        exact again_grow0 (k := 15) (v := i + 1 + 1) (e := 31) (e2 := 3) (n := i) (d := 35) (vd := (sa.rw 35).ver + 1) (M := List.replicate i (List.replicate (m + 1) 0)) (r := List.replicate (m + 1) 0) (by simp (maxSteps := 5000000) -dsimp only [gr, Nat.reduceEqDiff, Nat.reduceLT, Nat.reduceAdd, Nat.reduceMod, Nat.reduceBEq, sid_mod, sid_ne1, sid_ne2, sid_inj, ht.top]) (by simp) (fun j hj => by simp (maxSteps := 5000000) -dsimp only [gr, Nat.reduceEqDiff, Nat.reduceLT, Nat.reduceAdd, Nat.reduceMod, Nat.reduceBEq, sid_mod, sid_ne1, sid_ne2, sid_inj, ht.row j hj]) (fun j hj => by simp (maxSteps := 5000000) -dsimp only [gr, Nat.reduceEqDiff, Nat.reduceLT, Nat.reduceAdd, Nat.reduceMod, Nat.reduceBEq, sid_mod, sid_ne1, sid_ne2, sid_inj, ht.rest j hj]) (by simp (maxSteps := 5000000) -dsimp only [gr, Nat.reduceEqDiff, Nat.reduceLT, Nat.reduceAdd, Nat.reduceMod, Nat.reduceBEq, sid_mod, sid_ne1, sid_ne2, sid_inj, hm1]) (by decide) (by decide) (i + 1) (fun sX htX hslX hoX => (by refine ⟨?_, ?_, ?_, ?_, ?_, ?_, ⟨by omega, (repl_snoc i _ ▸ htX : TabG _ _ _ _ _ _ _)⟩⟩ <;> (first | (simp (maxSteps := 5000000) -dsimp only [gr, Nat.reduceEqDiff, Nat.reduceLT, Nat.reduceAdd, Nat.reduceMod, Nat.reduceBEq, sid_mod, sid_ne1, sid_ne2, sid_inj, hslX, hoX, h1a, h2a, r2a, h5a, h6a, h7a, h1a, h2a, r2a, h5a, h6a, h7a, wrap_nat (show i < m + 1 by omega) (by omega)]; first | done | rfl | (simp; done)) | assumption | rfl))) (by first | omega | (simp only; omega) | (dsimp only; omega) | (show _ < _; simp; omega))
      · have : i = m + 1 := by omega
        subst this
        have hS := ht.done
        have hz := zeroM_sq m
        have hset0 : dtP (dualF m (faceB xs)) p m 0 = (List.replicate (m + 1) (List.replicate (m + 1) (0 : Int))).set 0 (((List.replicate (m + 1) (List.replicate (m + 1) (0 : Int))).getD 0 []).set 0 1) := by
          unfold dtP addAt
          congr 2
        have hrl0 := hz.row 0 (by omega)
        have hzl := hz.len
        generalize hZ : List.replicate (m + 1) (List.replicate (m + 1) (0 : Int)) = Z at *
        have e0 : (List.range (m + 1)).getD 0 0 = 0 := rangeD (by omega)
        have hrow0 := hS.row (i := 0) (by omega)
        rw [e0] at hrow0
        have htop := hS.top
        simp (maxSteps := 5000000) -dsimp only [↓gp, gq, reduceCtorEq, Nat.reduceEqDiff, Nat.reduceLT, Nat.reduceLeDiff, Nat.reduceAdd, Nat.reduceMul, Nat.reduceSub, Nat.reduceBEq, Int.reduceToNat, Int.reduceLE, Int.reduceLT, Int.reduceNeg, Nat.reduceMod, sid_ne1, sid_ne2, sid_inj, sid_mod, gT, TK.isInt, TK.agg, Array.toList, h1a, h2a, r2a, h5a, h6a, h7a, htop, ld_cellsT, e0, hrow0, hrl0, cellsT_length, List.length_range]
        refine ⟨by omega, by omega, by omega, askK_of (c_spec_DualOf m xs hcx) ?_⟩
        simp (maxSteps := 5000000) -dsimp only [↓gp, gq, reduceCtorEq, Nat.reduceEqDiff, Nat.reduceLT, Nat.reduceLeDiff, Nat.reduceAdd, Nat.reduceMul, Nat.reduceSub, Nat.reduceBEq, Int.reduceToNat, Int.reduceLE, Int.reduceLT, Int.reduceNeg, Nat.reduceMod, sid_ne1, sid_ne2, sid_inj, sid_mod, gT, TK.isInt, TK.agg, Array.toList, h1a, h2a, r2a, h5a, h6a, h7a, htop, ld_cellsT, e0, hrow0, hrl0, cellsT_length, List.length_range]
        refine askK_of (c_spec_FacesOf m (duaL m xs)) ?_
        rw [dua_ord hcx]
        have hLl := ordN_len (dualF m (faceB xs))
        have hLm := fun k (hk : k < (ordN (dualF m (faceB xs))).length) => mem_ordN.1 (getD_mem 0 hk)
        have hdt := dtP_sq (dualF m (faceB xs)) p m
        have hstep : ∀ k, dtP (dualF m (faceB xs)) p m (k + 1) = addD (dtP (dualF m (faceB xs)) p m k) m (m - popN ((ordN (dualF m (faceB xs))).getD k 0)) (holF (linkF (dualF m (faceB xs)) ((ordN (dualF m (faceB xs))).getD k 0)) p) (dimN (linkF (dualF m (faceB xs)) ((ordN (dualF m (faceB xs))).getD k 0))) := fun _ => rfl
        unfold dtT
        generalize hL : ordN (dualF m (faceB xs)) = L at *
        simp (maxSteps := 5000000) -dsimp only [↓gp, gq, reduceCtorEq, Nat.reduceEqDiff, Nat.reduceLT, Nat.reduceLeDiff, Nat.reduceAdd, Nat.reduceMul, Nat.reduceSub, Nat.reduceBEq, Int.reduceToNat, Int.reduceLE, Int.reduceLT, Int.reduceNeg, Nat.reduceMod, sid_ne1, sid_ne2, sid_inj, sid_mod, gT, TK.isInt, TK.agg, Array.toList, h1a, h2a, r2a, h5a, h6a, h7a, htop, ld_cellsT, e0, hrow0, hrl0, cellsT_length, List.length_range, ofN_length]
        have hdx := dua_cx hcx
        have hdo := cx_ok hdx
        have hdn := cx_len hdx
        have hhol := fun (s : Nat) (hs : s < 64) => hol_lnk hcx hs hp
        generalize duaL m xs = D at *
        refine loop_of (fun (zb : Nat × Nat × Nat × Nat) s => match zb with | (k, a, b, c) => s.sl 1 = int p ∧ s.sl 2 = .ref 2 1 0 ∧ s.rw 2 = ⟨1, .box 57 [int (m : Nat), ints xs]⟩ ∧ s.sl 5 = .own 15 (m + 1 + 1) ∧ s.sl 6 = int m ∧ s.sl 8 = .ref 8 a 0 ∧ s.rw 8 = ⟨a, .box 57 [int (m : Nat), .own 44 b]⟩ ∧ s.rw 44 = ⟨b, .sli 3 1 false (iL D)⟩ ∧ s.sl 10 = .own 48 c ∧ s.rw 48 = ⟨c, .sli 3 1 false (iL (ofN L))⟩ ∧ s.sl 11 = int k ∧ (k ≤ L.length ∧ TabI s.rw 15 (m + 1 + 1) 31 3 (List.range (m + 1)) (dtP (dualF m (faceB xs)) p m k))) (fun (k, a, b, c) => L.length - k) ((0, (sa.rw 8).ver + 1, (sa.rw 44).ver + 1, (sa.rw 48).ver + 1)) (by refine ⟨?_, ?_, ?_, ?_, ?_, ?_, ?_, ?_, ?_, ?_, ?_, ⟨Nat.zero_le _, by rw [hset0]; exact hS.set (i := 0) (by omega) (by simp (maxSteps := 5000000) -dsimp only [gr, Nat.reduceEqDiff, Nat.reduceLT, Nat.reduceAdd, Nat.reduceMod, Nat.reduceBEq, sid_mod, sid_ne1, sid_ne2, sid_inj]) (by simp (maxSteps := 5000000) -dsimp only [gr, Nat.reduceEqDiff, Nat.reduceLT, Nat.reduceAdd, Nat.reduceMod, Nat.reduceBEq, sid_mod, sid_ne1, sid_ne2, sid_inj, e0, htop, hrow0]) (fun x hx => by simp (maxSteps := 5000000) -dsimp only [gr, Nat.reduceEqDiff, Nat.reduceLT, Nat.reduceAdd, Nat.reduceMod, Nat.reduceBEq, sid_mod, sid_ne1, sid_ne2, sid_inj, e0 ▸ hx])⟩⟩ <;> (first | (simp (maxSteps := 5000000) -dsimp only [gr, Nat.reduceEqDiff, Nat.reduceLT, Nat.reduceAdd, Nat.reduceMod, Nat.reduceBEq, sid_mod, sid_ne1, sid_ne2, sid_inj, h1a, h2a, r2a, h5a, h6a, h7a, ofN_length]; first | done | rfl | (simp; done)) | assumption | rfl)) ?_
        intro (k, a, b, c) sb ⟨h1b, h2b, r2b, h5b, h6b, h8b, r8b, r44b, h10b, r48b, h11b, hIb⟩
        obtain ⟨hk, hb2⟩ := hIb
        simp (maxSteps := 5000000) -dsimp only [↓gp, gq, reduceCtorEq, Nat.reduceEqDiff, Nat.reduceLT, Nat.reduceLeDiff, Nat.reduceAdd, Nat.reduceMul, Nat.reduceSub, Nat.reduceBEq, Int.reduceToNat, Int.reduceLE, Int.reduceLT, Int.reduceNeg, Nat.reduceMod, sid_ne1, sid_ne2, sid_inj, sid_mod, gT, TK.isInt, TK.agg, Array.toList, h1b, h2b, r2b, h5b, h6b, h8b, r8b, r44b, h10b, r48b, h11b, ofN_length]
        refine ⟨fun h2 => ?_, fun h2 => ?_⟩
        · obtain ⟨hs64, hsd⟩ := hLm k h2
          have hsm2 : L.getD k 0 < 2 ^ m := by
            unfold dualF at hsd
            rw [Bool.and_eq_true, decide_eq_true_iff] at hsd
            exact hsd.1
          have hg := ofN_getD h2
          have hstepk := hstep k
          have hsqk := hdt k
          have hholk := hhol _ hs64
          generalize hs0 : L.getD k 0 = s0 at *
          have hpn := pop_le_n (n := m) (by omega) hsm2
          simp (maxSteps := 5000000) -dsimp only [↓gp, gq, reduceCtorEq, Nat.reduceEqDiff, Nat.reduceLT, Nat.reduceLeDiff, Nat.reduceAdd, Nat.reduceMul, Nat.reduceSub, Nat.reduceBEq, Int.reduceToNat, Int.reduceLE, Int.reduceLT, Int.reduceNeg, Nat.reduceMod, sid_ne1, sid_ne2, sid_inj, sid_mod, gT, TK.isInt, TK.agg, Array.toList, h1b, h2b, r2b, h5b, h6b, h8b, r8b, r44b, h10b, r48b, h11b, ofN_length, hg]
          refine ⟨h2, h2, askK_of (c_spec_l2Size s0 (by omega)) ?_⟩
          have hw0 : IntKind.i64.wrap ((m : Int) - (popN s0 : Int)) = ((m - popN s0 : Nat) : Int) := by rw [wrap_id (by omega) (by omega)]; omega
          simp (maxSteps := 5000000) -dsimp only [↓gp, gq, reduceCtorEq, Nat.reduceEqDiff, Nat.reduceLT, Nat.reduceLeDiff, Nat.reduceAdd, Nat.reduceMul, Nat.reduceSub, Nat.reduceBEq, Int.reduceToNat, Int.reduceLE, Int.reduceLT, Int.reduceNeg, Nat.reduceMod, sid_ne1, sid_ne2, sid_inj, sid_mod, gT, TK.isInt, TK.agg, Array.toList, h1b, h2b, r2b, h5b, h6b, h8b, r8b, r44b, h10b, r48b, h11b, ofN_length, hg, hw0]
          refine ⟨by kernel_rfl, h2, h2, askK_of (c_spec_l5Link _ D s0 hs64 hdo (by omega)) ?_⟩
          simp (maxSteps := 5000000) -dsimp only [↓gp, gq, reduceCtorEq, Nat.reduceEqDiff, Nat.reduceLT, Nat.reduceLeDiff, Nat.reduceAdd, Nat.reduceMul, Nat.reduceSub, Nat.reduceBEq, Int.reduceToNat, Int.reduceLE, Int.reduceLT, Int.reduceNeg, Nat.reduceMod, sid_ne1, sid_ne2, sid_inj, sid_mod, gT, TK.isInt, TK.agg, Array.toList, h1b, h2b, r2b, h5b, h6b, h8b, r8b, r44b, h10b, r48b, h11b, ofN_length, hg, hw0]
          refine askK_of (c_spec_HolesMod _ _ p) ?_
          rw [hholk]
          have hsm := hol_small (linkF (dualF m (faceB xs)) s0) p
          have hdl := dimN_le (linkF (dualF m (faceB xs)) s0)
          have hhl := holF_length (linkF (dualF m (faceB xs)) s0) p
          generalize hhs : holF (linkF (dualF m (faceB xs)) s0) p = hs at *
          generalize hjj : m - popN s0 = jj at *
          generalize dtP (dualF m (faceB xs)) p m k = M0 at *
          have hsq := fun i => addD_sq (m := m) (j := jj) hsqk hsm i
          simp (maxSteps := 5000000) -dsimp only [↓gp, gq, reduceCtorEq, Nat.reduceEqDiff, Nat.reduceLT, Nat.reduceLeDiff, Nat.reduceAdd, Nat.reduceMul, Nat.reduceSub, Nat.reduceBEq, Int.reduceToNat, Int.reduceLE, Int.reduceLT, Int.reduceNeg, Nat.reduceMod, sid_ne1, sid_ne2, sid_inj, sid_mod, gT, TK.isInt, TK.agg, Array.toList, h1b, h2b, r2b, h5b, h6b, h8b, r8b, r44b, h10b, r48b, h11b, ofN_length, hg, hw0]
          refine ⟨by kernel_rfl, ?_⟩
          refine loop_of (fun (zc : Nat × Nat) s => match zc with | (i, u) => s.sl 1 = int p ∧ s.sl 2 = .ref 2 1 0 ∧ s.rw 2 = ⟨1, .box 57 [int (m : Nat), ints xs]⟩ ∧ s.sl 5 = .own 15 (m + 1 + 1) ∧ s.sl 6 = int m ∧ s.sl 8 = .ref 8 a 0 ∧ s.rw 8 = ⟨a, .box 57 [int (m : Nat), .own 44 b]⟩ ∧ s.rw 44 = ⟨b, .sli 3 1 false (iL D)⟩ ∧ s.sl 10 = .own 48 c ∧ s.rw 48 = ⟨c, .sli 3 1 false (iL (ofN L))⟩ ∧ s.sl 11 = int k ∧ s.sl 12 = int jj ∧ s.sl 13 = .own 69 u ∧ s.rw 69 = ⟨u, .sli 3 1 false (iL hs)⟩ ∧ s.sl 14 = int (i + 1 : Nat) ∧ (i ≤ hs.length ∧ TabI s.rw 15 (m + 1 + 1) 31 3 (List.range (m + 1)) (addD M0 m jj hs i))) (fun (i, u) => hs.length - i) ((0, (sb.rw 69).ver + 1)) (by refine ⟨?_, ?_, ?_, ?_, ?_, ?_, ?_, ?_, ?_, ?_, ?_, ?_, ?_, ?_, ?_, ⟨by omega, hb2.same (by simp (maxSteps := 5000000) -dsimp only [gr, Nat.reduceEqDiff, Nat.reduceLT, Nat.reduceAdd, Nat.reduceMod, Nat.reduceBEq, sid_mod, sid_ne1, sid_ne2, sid_inj]) (fun x => by simp (maxSteps := 5000000) -dsimp only [gr, Nat.reduceEqDiff, Nat.reduceLT, Nat.reduceAdd, Nat.reduceMod, Nat.reduceBEq, sid_mod, sid_ne1, sid_ne2, sid_inj])⟩⟩ <;> (first | (simp (maxSteps := 5000000) -dsimp only [gr, Nat.reduceEqDiff, Nat.reduceLT, Nat.reduceAdd, Nat.reduceMod, Nat.reduceBEq, sid_mod, sid_ne1, sid_ne2, sid_inj, h1b, h2b, r2b, h5b, h6b, h8b, r8b, r44b, h10b, r48b, h11b]; first | done | rfl | (simp; done)) | assumption | rfl)) ?_
          intro (i, u) sc ⟨h1c, h2c, r2c, h5c, h6c, h8c, r8c, r44c, h10c, r48c, h11c, h12c, h13c, r69c, h14c, hIc⟩
          obtain ⟨hi, hb3⟩ := hIc
          have hend : (i = hs.length ∨ m ≤ i) → addD M0 m jj hs i = dtP (dualF m (faceB xs)) p m (k + 1) := fun h => by
            rw [hstepk, ← hhl]
            rcases h with h | h
            · rw [h]
            · have := addD_stop (M := M0) (j := jj) (hs := hs) h (hs.length - i)
              rw [show i + (hs.length - i) = hs.length by omega] at this
              exact this.symm
          by_cases h3 : i < hs.length
          · have hwi : IntKind.i64.wrap ((i + 1 : Nat) : Int) = ((i + 1 : Nat) : Int) := wrap_id (by omega) (by omega)
            have hwj : IntKind.i64.wrap (((i + 1 : Nat) : Int) - 1) = (i : Int) := by rw [wrap_id (by omega) (by omega)]; omega
            by_cases h4 : i + 1 ≤ m
            · have hsq := hsq i
              have hs1 := hsq.small (i + 1) jj
              have hs2 := hsm i
              have hml := hsq.len
              have hrl := hsq.row (i + 1) (by omega)
              have hadd : addD M0 m jj hs (i + 1) = addAt (addD M0 m jj hs i) (i + 1) jj (hs.getD i 0) := by rw [addD, if_pos h4]
              generalize addD M0 m jj hs i = M at *
              have e1 : (List.range (m + 1)).getD (i + 1) 0 = i + 1 := rangeD (by omega)
              have hrow := hb3.row (i := i + 1) (by omega)
              rw [e1] at hrow
              have hw2 : IntKind.i64.wrap ((M.getD (i + 1) []).getD jj 0 + hs.getD i 0) = (M.getD (i + 1) []).getD jj 0 + hs.getD i 0 := wrap_id (by omega) (by omega)
              simp (maxSteps := 5000000) -dsimp only [↓gp, gq, reduceCtorEq, Nat.reduceEqDiff, Nat.reduceLT, Nat.reduceLeDiff, Nat.reduceAdd, Nat.reduceMul, Nat.reduceSub, Nat.reduceBEq, Int.reduceToNat, Int.reduceLE, Int.reduceLT, Int.reduceNeg, Nat.reduceMod, sid_ne1, sid_ne2, sid_inj, sid_mod, gT, TK.isInt, TK.agg, Array.toList, h1c, h2c, r2c, h5c, h6c, h8c, r8c, r44c, h10c, r48c, h11c, h12c, h13c, r69c, h14c, hwj, hb3.top, ld_cellsT, e1, hrow, hrl, cellsT_length, List.length_range, hw2]
              refine ⟨fun _ => ⟨fun _ => ⟨by kernel_rfl, by omega, by omega, by omega, by omega, by omega, by omega, h3, h3, by omega, by omega, by kernel_rfl, ?_⟩, fun h => absurd h4 h⟩, fun h => absurd (show i + 1 ≤ hs.length by omega) h⟩
              exact again_of ((i + 1, u)) (by refine ⟨?_, ?_, ?_, ?_, ?_, ?_, ?_, ?_, ?_, ?_, ?_, ?_, ?_, ?_, ?_, ⟨by dsimp only; omega, by
                dsimp only
                rw [hadd]
                exact hb3.set (i := i + 1) (by omega) (by simp (maxSteps := 5000000) -dsimp only [gr, Nat.reduceEqDiff, Nat.reduceLT, Nat.reduceAdd, Nat.reduceMod, Nat.reduceBEq, sid_mod, sid_ne1, sid_ne2, sid_inj]) (by simp (maxSteps := 5000000) -dsimp only [gr, Nat.reduceEqDiff, Nat.reduceLT, Nat.reduceAdd, Nat.reduceMod, Nat.reduceBEq, sid_mod, sid_ne1, sid_ne2, sid_inj, e1, h1c, h2c, r2c, h5c, h6c, h8c, r8c, r44c, h10c, r48c, h11c, h12c, h13c, r69c, h14c, hb3.top, hrow]) (fun x hx => by simp (maxSteps := 5000000) -dsimp only [gr, Nat.reduceEqDiff, Nat.reduceLT, Nat.reduceAdd, Nat.reduceMod, Nat.reduceBEq, sid_mod, sid_ne1, sid_ne2, sid_inj, e1 ▸ hx])⟩⟩ <;> (first | (simp (maxSteps := 5000000) -dsimp only [gr, Nat.reduceEqDiff, Nat.reduceLT, Nat.reduceAdd, Nat.reduceMod, Nat.reduceBEq, sid_mod, sid_ne1, sid_ne2, sid_inj, h1c, h2c, r2c, h5c, h6c, h8c, r8c, r44c, h10c, r48c, h11c, h12c, h13c, r69c, h14c, wrap_nat (show i + 1 < m + 1 by omega) (by omega)]; first | done | rfl | (simp; done)) | assumption | rfl)) (by first | omega | (simp only; omega) | (dsimp only; omega) | (show _ < _; simp; omega))
            · have e := hend (.inr (by omega))
              rw [e] at hb3
              simp (maxSteps := 5000000) -dsimp only [↓gp, gq, reduceCtorEq, Nat.reduceEqDiff, Nat.reduceLT, Nat.reduceLeDiff, Nat.reduceAdd, Nat.reduceMul, Nat.reduceSub, Nat.reduceBEq, Int.reduceToNat, Int.reduceLE, Int.reduceLT, Int.reduceNeg, Nat.reduceMod, sid_ne1, sid_ne2, sid_inj, sid_mod, gT, TK.isInt, TK.agg, Array.toList, h1c, h2c, r2c, h5c, h6c, h8c, r8c, r44c, h10c, r48c, h11c, h12c, h13c, r69c, h14c]
              refine ⟨fun _ => ⟨fun h => absurd h h4, fun _ => ?_⟩, fun h => absurd (show i + 1 ≤ hs.length by omega) h⟩
              exact again_of ((k + 1, a, b, c)) (by refine ⟨?_, ?_, ?_, ?_, ?_, ?_, ?_, ?_, ?_, ?_, ?_, ⟨by dsimp only; omega, hb3.same (by simp (maxSteps := 5000000) -dsimp only [gr, Nat.reduceEqDiff, Nat.reduceLT, Nat.reduceAdd, Nat.reduceMod, Nat.reduceBEq, sid_mod, sid_ne1, sid_ne2, sid_inj]) (fun x => by simp (maxSteps := 5000000) -dsimp only [gr, Nat.reduceEqDiff, Nat.reduceLT, Nat.reduceAdd, Nat.reduceMod, Nat.reduceBEq, sid_mod, sid_ne1, sid_ne2, sid_inj])⟩⟩ <;> (first | (simp (maxSteps := 5000000) -dsimp only [gr, Nat.reduceEqDiff, Nat.reduceLT, Nat.reduceAdd, Nat.reduceMod, Nat.reduceBEq, sid_mod, sid_ne1, sid_ne2, sid_inj, h1b, h2b, r2b, h5b, h6b, h8b, r8b, r44b, h10b, r48b, h11b, h1c, h2c, r2c, h5c, h6c, h8c, r8c, r44c, h10c, r48c, h11c, h12c, h13c, r69c, h14c, wrap_nat h2 (by omega)]; first | done | rfl | (simp; done)) | assumption | rfl)) (by first | omega | (simp only; omega) | (dsimp only; omega) | (show _ < _; simp; omega))
          · have e := hend (.inl (by omega))
            rw [e] at hb3
            simp (maxSteps := 5000000) -dsimp only [↓gp, gq, reduceCtorEq, Nat.reduceEqDiff, Nat.reduceLT, Nat.reduceLeDiff, Nat.reduceAdd, Nat.reduceMul, Nat.reduceSub, Nat.reduceBEq, Int.reduceToNat, Int.reduceLE, Int.reduceLT, Int.reduceNeg, Nat.reduceMod, sid_ne1, sid_ne2, sid_inj, sid_mod, gT, TK.isInt, TK.agg, Array.toList, h1c, h2c, r2c, h5c, h6c, h8c, r8c, r44c, h10c, r48c, h11c, h12c, h13c, r69c, h14c]
            refine ⟨fun h => absurd (show i + 1 ≤ hs.length from h) (by omega), fun _ => ?_⟩
            exact again_of ((k + 1, a, b, c)) (by refine ⟨?_, ?_, ?_, ?_, ?_, ?_, ?_, ?_, ?_, ?_, ?_, ⟨by dsimp only; omega, hb3.same (by simp (maxSteps := 5000000) -dsimp only [gr, Nat.reduceEqDiff, Nat.reduceLT, Nat.reduceAdd, Nat.reduceMod, Nat.reduceBEq, sid_mod, sid_ne1, sid_ne2, sid_inj]) (fun x => by simp (maxSteps := 5000000) -dsimp only [gr, Nat.reduceEqDiff, Nat.reduceLT, Nat.reduceAdd, Nat.reduceMod, Nat.reduceBEq, sid_mod, sid_ne1, sid_ne2, sid_inj])⟩⟩ <;> (first | (simp (maxSteps := 5000000) -dsimp only [gr, Nat.reduceEqDiff, Nat.reduceLT, Nat.reduceAdd, Nat.reduceMod, Nat.reduceBEq, sid_mod, sid_ne1, sid_ne2, sid_inj, h1b, h2b, r2b, h5b, h6b, h8b, r8b, r44b, h10b, r48b, h11b, h1c, h2c, r2c, h5c, h6c, h8c, r8c, r44c, h10c, r48c, h11c, h12c, h13c, r69c, h14c, wrap_nat h2 (by omega)]; first | done | rfl | (simp; done)) | assumption | rfl)) (by first | omega | (simp only; omega) | (dsimp only; omega) | (show _ < _; simp; omega))
        · have : k = L.length := by omega
          subst this
          exact out2_tabI hb2 (by decide) (fun j hj => by have := List.mem_range.1 hj; omega)
  · have hh : hasF n xs = false := by simpa using hh
    rw [dtR_no (fun h => by rw [h.1] at hh; cases hh)]
    exact out2_tb0 (by simp (maxSteps := 5000000) -dsimp only [gr, Nat.reduceEqDiff, Nat.reduceLT, Nat.reduceAdd, Nat.reduceMod, Nat.reduceBEq, sid_mod, sid_ne1, sid_ne2, sid_inj]) (by decide)
end Go.Proofs.Ytnfpeinbdfmlnaa

namespace Go.Proofs.Ytnfpeinbdfmlnaa
open Go.Abs
set_option linter.unusedSimpArgs false
set_option linter.unusedVariables false

theorem flat_map (M : Mat) : (M.map iL).map (fun r => PV.sl false 1 r) = iLL M := by unfold iLL; rw [List.map_map]; rfl
end Go.Proofs.Ytnfpeinbdfmlnaa

namespace Go.Proofs.Ytnfpeinbdfmlnaa
open Go.Abs
set_option linter.unusedSimpArgs false
set_option linter.unusedVariables false

end Go.Proofs.Ytnfpeinbdfmlnaa

namespace Go.Proofs.Ytnfpeinbdfmlnaa
open Go.Abs
set_option linter.unusedSimpArgs false
set_option linter.unusedVariables false

end Go.Proofs.Ytnfpeinbdfmlnaa

namespace Go.Proofs.Ytnfpeinbdfmlnaa
open Go.Abs
set_option linter.unusedSimpArgs false
set_option linter.unusedVariables false

end Go.Proofs.Ytnfpeinbdfmlnaa

namespace Go.Proofs.Ytnfpeinbdfmlnaa
open Go.Abs
set_option linter.unusedSimpArgs false
set_option linter.unusedVariables false

end Go.Proofs.Ytnfpeinbdfmlnaa

namespace Go.Proofs.Ytnfpeinbdfmlnaa
open Go.Abs
set_option linter.unusedSimpArgs false
set_option linter.unusedVariables false

theorem c_laws_markComplex (n : Int) (xs : List Int) (k : Int) (hx : xs.length ≤ 1152921504606846976) (k0 : 0 ≤ k) (k1 : k ≤ 1152921504606846976) : AM Try.prog 45 [.ag [int n, .own 1000000 1], int k] [⟨3, 1, iL xs⟩] [iL (mks k xs.length)] (.int .i64 (k + xs.length)) := by
  refine AM.go (rs := [.tmp 4]) T_ok mixed Try.func45 rfl rfl rfl (by kernel_rfl) (plainR_cons (plain_iL _) plainR_nil) (plains_cons (plain_iL _) plains_nil) rfl fun hl => ?_
  simp (maxSteps := 5000000) -dsimp only [↓gp, gq, reduceCtorEq, Nat.reduceEqDiff, Nat.reduceLT, Nat.reduceLeDiff, Nat.reduceAdd, Nat.reduceMul, Nat.reduceSub, Nat.reduceBEq, Int.reduceToNat, Int.reduceLE, Int.reduceLT, Int.reduceNeg, Nat.reduceMod, sid_ne1, sid_ne2, sid_inj, sid_mod, gT, TK.isInt, TK.agg, Array.toList]
  refine askM_of (c_laws_markIntS xs k hx k0 k1) [(1000000, 1)] (by repeat (first | exact GiveL.nil | refine GiveL.v ?_ | refine GiveL.own 0 rfl ?_ | refine GiveL.own 1 rfl ?_ | refine GiveL.ag ?_ ?_)) ⟨by simp (maxSteps := 5000000) -dsimp only [gr, Nat.reduceEqDiff, Nat.reduceLT, Nat.reduceAdd, Nat.reduceMod, Nat.reduceBEq, sid_mod, sid_ne1, sid_ne2, sid_inj], trivial⟩ (by decide) ?_
  simp (maxSteps := 5000000) -dsimp only [↓gp, gq, reduceCtorEq, Nat.reduceEqDiff, Nat.reduceLT, Nat.reduceLeDiff, Nat.reduceAdd, Nat.reduceMul, Nat.reduceSub, Nat.reduceBEq, Int.reduceToNat, Int.reduceLE, Int.reduceLT, Int.reduceNeg, Nat.reduceMod, sid_ne1, sid_ne2, sid_inj, sid_mod, gT, TK.isInt, TK.agg, Array.toList]
theorem c_laws_eqComplex (n m : Int) (xs ys : List Int) : AC Try.prog 44 [.ag [int n, ints xs], .ag [int m, ints ys]] (.im (bool (sameG n xs m ys))) := by
  refine AC.go (rs := [.tmp 4]) T_ok mixed Try.func44 rfl rfl rfl (by kernel_rfl) fun hl => ?_
  simp (maxSteps := 5000000) -dsimp only [↓gp, gq, reduceCtorEq, Nat.reduceEqDiff, Nat.reduceLT, Nat.reduceLeDiff, Nat.reduceAdd, Nat.reduceMul, Nat.reduceSub, Nat.reduceBEq, Int.reduceToNat, Int.reduceLE, Int.reduceLT, Int.reduceNeg, Nat.reduceMod, sid_ne1, sid_ne2, sid_inj, sid_mod, gT, TK.isInt, TK.agg, Array.toList]
  unfold sameG
  refine ⟨fun h => ?_, fun h => askK_of (c_laws_eqIntS xs ys) ?_⟩
  · simp at h
    simp [h]
  · simp (maxSteps := 5000000) -dsimp only [↓gp, gq, reduceCtorEq, Nat.reduceEqDiff, Nat.reduceLT, Nat.reduceLeDiff, Nat.reduceAdd, Nat.reduceMul, Nat.reduceSub, Nat.reduceBEq, Int.reduceToNat, Int.reduceLE, Int.reduceLT, Int.reduceNeg, Nat.reduceMod, sid_ne1, sid_ne2, sid_inj, sid_mod, gT, TK.isInt, TK.agg, Array.toList]
    simp at h
    exact ⟨fun h2 => by simpa [h] using h2, fun h2 => by simpa [h] using h2⟩
end Go.Proofs.Ytnfpeinbdfmlnaa

namespace Go.Proofs.Ytnfpeinbdfmlnaa
open Go.Abs
set_option linter.unusedSimpArgs false
set_option linter.unusedVariables false

theorem c_laws_szComplex (k : Int) (xs : List Int) (n : Int) (h0 : 0 ≤ n) (h1 : n ≤ 1048576) : AC Try.prog 40 [.ag [int k, ints xs], int n] (.im (int (szI n xs.length))) := by
  refine AC.go (rs := [.tmp 4]) T_ok mixed Try.func40 rfl rfl rfl (by kernel_rfl) fun hl => ?_
  simp (maxSteps := 5000000) -dsimp only [↓gp, gq, reduceCtorEq, Nat.reduceEqDiff, Nat.reduceLT, Nat.reduceLeDiff, Nat.reduceAdd, Nat.reduceMul, Nat.reduceSub, Nat.reduceBEq, Int.reduceToNat, Int.reduceLE, Int.reduceLT, Int.reduceNeg, Nat.reduceMod, sid_ne1, sid_ne2, sid_inj, sid_mod, gT, TK.isInt, TK.agg, Array.toList]
  refine askK_of (c_laws_szIntS xs n h0 h1) ?_
  simp (maxSteps := 5000000) -dsimp only [↓gp, gq, reduceCtorEq, Nat.reduceEqDiff, Nat.reduceLT, Nat.reduceLeDiff, Nat.reduceAdd, Nat.reduceMul, Nat.reduceSub, Nat.reduceBEq, Int.reduceToNat, Int.reduceLE, Int.reduceLT, Int.reduceNeg, Nat.reduceMod, sid_ne1, sid_ne2, sid_inj, sid_mod, gT, TK.isInt, TK.agg, Array.toList]
  have e : (if n - ↑xs.length < 0 then (-1 : Int) else n - ↑xs.length) = szI n xs.length := rfl
  simp only [e]
  refine ⟨fun h => ?_, fun _ => trivial⟩
  unfold szI at h ⊢
  split <;> omega
theorem c_laws_toComplex (n : Int) (xs : List Int) (hx : xs.length ≤ 1048576) : AC Try.prog 42 [.ag [int n, ints xs]] (.ag [.im (int n), .fr 3 1 (iL xs)]) := by
  refine AC.go (rs := [.cell 2 57]) T_ok mixed Try.func42 rfl rfl rfl (by kernel_rfl) fun hl => ?_
  simp (maxSteps := 5000000) -dsimp only [↓gp, gq, reduceCtorEq, Nat.reduceEqDiff, Nat.reduceLT, Nat.reduceLeDiff, Nat.reduceAdd, Nat.reduceMul, Nat.reduceSub, Nat.reduceBEq, Int.reduceToNat, Int.reduceLE, Int.reduceLT, Int.reduceNeg, Nat.reduceMod, sid_ne1, sid_ne2, sid_inj, sid_mod, gT, TK.isInt, TK.agg, Array.toList]
  refine askK_of (c_laws_toIntS xs hx) ?_
  simp (maxSteps := 5000000) -dsimp only [↓gp, gq, reduceCtorEq, Nat.reduceEqDiff, Nat.reduceLT, Nat.reduceLeDiff, Nat.reduceAdd, Nat.reduceMul, Nat.reduceSub, Nat.reduceBEq, Int.reduceToNat, Int.reduceLE, Int.reduceLT, Int.reduceNeg, Nat.reduceMod, sid_ne1, sid_ne2, sid_inj, sid_mod, gT, TK.isInt, TK.agg, Array.toList]
end Go.Proofs.Ytnfpeinbdfmlnaa

namespace Go.Proofs.Ytnfpeinbdfmlnaa
open Go.Abs
set_option linter.unusedSimpArgs false
set_option linter.unusedVariables false

end Go.Proofs.Ytnfpeinbdfmlnaa

namespace Go.Proofs.Ytnfpeinbdfmlnaa
open Go.Abs
set_option linter.unusedSimpArgs false
set_option linter.unusedVariables false

end Go.Proofs.Ytnfpeinbdfmlnaa

namespace Go.Proofs.Ytnfpeinbdfmlnaa
open Go.Abs
set_option linter.unusedSimpArgs false
set_option linter.unusedVariables false

theorem dtR_len (n : Int) (xs : List Int) (p : Int) : (dtR n xs p).length ≤ 7 ∧ ∀ i, ((dtR n xs p).getD i []).length ≤ 7 := by
  unfold dtR
  split
  · rename_i h
    obtain ⟨h1, h6, _⟩ := isCx_iff.1 (hasF_iff.1 h.1).1
    have hs := dtT_sq (dualF n.toNat (faceB xs)) p n.toNat
    have hl := hs.len
    refine ⟨by omega, fun i => ?_⟩
    by_cases hi : i < n.toNat + 1
    · rw [hs.row i hi]; omega
    · have : (dtT (dualF n.toNat (faceB xs)) p n.toNat).getD i [] = [] := by simp [List.getD, show ¬ i < (dtT (dualF n.toNat (faceB xs)) p n.toNat).length by omega]
      rw [this]; simp
  · exact ⟨by simp, fun i => by simp [List.getD]⟩
theorem sumL_le7 {M : Mat} (h : ∀ i, (M.getD i []).length ≤ 7) : ∀ i : Nat, sumL M i ≤ 7 * i := by
  intro i
  induction i with
  | zero => simp [sumL]
  | succ i ih => have := h i; rw [sumL]; omega
theorem c_spec_DualTableF (n : Int) (xs : List Int) (p : Int) : AC Try.prog 41 [.ag [int n, ints xs], int p] (.fr 31 1 (iLL (dtR n xs p))) := flat_map (dtR n xs p) ▸ (c_spec_DualTable n xs p).flat
theorem c_impl_DualTableF (n : Int) (xs : List Int) (p : Int) : AC Try.prog 43 [.ag [int n, ints xs], int p] (.fr 31 1 (iLL (dtR n xs p))) := flat_map (dtR n xs p) ▸ (c_impl_DualTable n xs p).flat
end Go.Proofs.Ytnfpeinbdfmlnaa
