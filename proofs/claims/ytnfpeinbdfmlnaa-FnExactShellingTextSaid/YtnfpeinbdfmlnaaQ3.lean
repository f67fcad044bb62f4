/- DERIVED by an AI agent. -/
import Derived.Test.YtnfpeinbdfmlnaaQ2
namespace Go.Proofs.Ytnfpeinbdfmlnaa
open Go.Abs
set_option linter.unusedSimpArgs false
set_option linter.unusedVariables false

theorem bit_i64 : ∀ s, s < 64 → ∀ i, i < 6 → (iand .i64 (ishr .i64 (s : Nat) (i : Nat)) 1 == 1) = s.testBit i := by
  have h : ((List.range 64).all fun s => (List.range 6).all fun i => (iand .i64 (ishr .i64 (s : Nat) (i : Nat)) 1 == 1) == s.testBit i) = true := by decide +kernel
  intro s hs i hi
  have := List.all_eq_true.1 (List.all_eq_true.1 h s (List.mem_range.2 hs)) i (List.mem_range.2 hi)
  simpa using this
/-- The points of a set, as text. -/
def ptsP (s i : Nat) : List Nat := (List.range i).filter s.testBit
def txP (s i : Nat) : ByteArray := ⟨((ptsP s i).map fun j => UInt8.ofNat (97 + j)).toArray⟩
def setTx (s : Nat) : ByteArray := if s = 0 then ⟨#[45]⟩ else txP s 6
def setTI (s : Int) : ByteArray := if 0 ≤ s ∧ s < 64 then setTx s.toNat else ⟨#[]⟩
theorem ptsP_yes {s i : Nat} (h : s.testBit i = true) : ptsP s (i + 1) = ptsP s i ++ [i] := by unfold ptsP; rw [List.range_succ, List.filter_append]; simp [h]
theorem ptsP_no {s i : Nat} (h : s.testBit i = false) : ptsP s (i + 1) = ptsP s i := by unfold ptsP; rw [List.range_succ, List.filter_append]; simp [h]
theorem txP_yes {s i : Nat} (h : s.testBit i = true) : txP s (i + 1) = txP s i ++ ⟨#[UInt8.ofNat (97 + i)]⟩ := by
  unfold txP; rw [ptsP_yes h]
  refine ByteArray.ext ?_
  simp
theorem txP_no {s i : Nat} (h : s.testBit i = false) : txP s (i + 1) = txP s i := by unfold txP; rw [ptsP_no h]
theorem ptsP_len (s i : Nat) : (ptsP s i).length ≤ i := by
  have := List.length_filter_le s.testBit (List.range i)
  rwa [List.length_range] at this
theorem txP_size (s i : Nat) : (txP s i).size ≤ i := by
  have := ptsP_len s i
  show ((ptsP s i).map _).toArray.size ≤ i
  simpa using this
theorem abc_cut : ∀ i, i < 6 → (⟨#[97, 98, 99, 100, 101, 102]⟩ : ByteArray).extract i (i + 1) = ⟨#[UInt8.ofNat (97 + i)]⟩ := by decide +kernel
theorem c_spec_SetText (s : Int) : AC Try.prog 152 [int s] (.im (str (setTI s))) := by
  refine AC.go (rs := [.tmp 2]) T_ok mixed Try.func152 rfl rfl rfl (by kernel_rfl) fun hl => ?_
  simp (maxSteps := 5000000) -dsimp only [↓gp, gq, reduceCtorEq, Nat.reduceEqDiff, Nat.reduceLT, Nat.reduceLeDiff, Nat.reduceAdd, Nat.reduceMul, Nat.reduceSub, Nat.reduceBEq, Int.reduceToNat, Int.reduceLE, Int.reduceLT, Int.reduceNeg, Nat.reduceMod, sid_ne1, sid_ne2, sid_inj, sid_mod, gT, TK.isInt, TK.agg, Array.toList]
  refine askK_of (c_spec_l1In _ _ _) ?_
  simp (maxSteps := 5000000) -dsimp only [↓gp, gq, reduceCtorEq, Nat.reduceEqDiff, Nat.reduceLT, Nat.reduceLeDiff, Nat.reduceAdd, Nat.reduceMul, Nat.reduceSub, Nat.reduceBEq, Int.reduceToNat, Int.reduceLE, Int.reduceLT, Int.reduceNeg, Nat.reduceMod, sid_ne1, sid_ne2, sid_inj, sid_mod, gT, TK.isInt, TK.agg, Array.toList]
  unfold setTI
  refine ⟨fun h => ?_, fun h => ?_⟩
  · rw [if_neg (fun hc => by simp at h; omega)]
  · have h : 0 ≤ s ∧ s ≤ 63 := by simpa using h
    rw [if_pos ⟨h.1, by omega⟩]
    obtain ⟨u, rfl⟩ : ∃ u : Nat, s = u := ⟨s.toNat, by omega⟩
    rw [Int.toNat_natCast]
    have hu : u < 64 := by omega
    refine ⟨fun h0 => ?_, fun h0 => ?_⟩
    · have : u = 0 := by
        have : (u : Int) = 0 := by simpa using h0
        omega
      rw [this]; rfl
    · have hne : u ≠ 0 := fun e => by rw [e] at h0; simp at h0
      have hse : setTx u = txP u 6 := if_neg hne
      rw [hse]
      refine loop_of (fun (i : Nat) s => s.sl 0 = int u ∧ s.sl 3 = str (txP u i) ∧ s.sl 4 = int i ∧ (i ≤ 6)) (fun i => 6 - i) (0) (by refine ⟨?_, ?_, ?_, by omega⟩ <;> (first | (simp (maxSteps := 5000000) -dsimp only [gr, Nat.reduceEqDiff, Nat.reduceLT, Nat.reduceAdd, Nat.reduceMod, Nat.reduceBEq, sid_mod, sid_ne1, sid_ne2, sid_inj]; first | done | rfl | (simp; done)) | assumption | rfl)) ?_
      intro i sa ⟨h0a, h3a, h4a, hIa⟩
      have hun : IntKind.u64.wrap (i : Int) = (i : Int) := uwrap_id (by omega)
      by_cases hi : i < 6
      · have hbit := bit_i64 u hu i hi
        have hcut := abc_cut i hi
        have hw := wrap_nat hi (by omega)
        simp (maxSteps := 5000000) -dsimp only [↓gp, gq, reduceCtorEq, Nat.reduceEqDiff, Nat.reduceLT, Nat.reduceLeDiff, Nat.reduceAdd, Nat.reduceMul, Nat.reduceSub, Nat.reduceBEq, Int.reduceToNat, Int.reduceLE, Int.reduceLT, Int.reduceNeg, Nat.reduceMod, sid_ne1, sid_ne2, sid_inj, sid_mod, gT, TK.isInt, TK.agg, Array.toList, h0a, h3a, h4a, hun, hbit, hw, Int.toNat_natCast, hcut]
        have hsz := txP_size u i
        refine ⟨fun _ => ⟨fun hb => ⟨by omega, by show i + 1 ≤ 6; omega, by show (txP u i).size + 1 ≤ 9223372036854775807; omega, ?_⟩, fun hb => ?_⟩, fun h => absurd (by omega) h⟩
        · have e := txP_yes hb
          exact again_of (i + 1) (by refine ⟨?_, ?_, ?_, by omega⟩ <;> (first | (simp (maxSteps := 5000000) -dsimp only [gr, Nat.reduceEqDiff, Nat.reduceLT, Nat.reduceAdd, Nat.reduceMod, Nat.reduceBEq, sid_mod, sid_ne1, sid_ne2, sid_inj, h0a, h3a, h4a, hw, e]; first | done | rfl | (simp; done)) | assumption | rfl)) (by first | omega | (simp only; omega) | (dsimp only; omega) | (show _ < _; simp; omega))
        · have e := txP_no hb
          exact again_of (i + 1) (by refine ⟨?_, ?_, ?_, by omega⟩ <;> (first | (simp (maxSteps := 5000000) -dsimp only [gr, Nat.reduceEqDiff, Nat.reduceLT, Nat.reduceAdd, Nat.reduceMod, Nat.reduceBEq, sid_mod, sid_ne1, sid_ne2, sid_inj, h0a, h3a, h4a, hw, e]; first | done | rfl | (simp; done)) | assumption | rfl)) (by first | omega | (simp only; omega) | (dsimp only; omega) | (show _ < _; simp; omega))
      · simp (maxSteps := 5000000) -dsimp only [↓gp, gq, reduceCtorEq, Nat.reduceEqDiff, Nat.reduceLT, Nat.reduceLeDiff, Nat.reduceAdd, Nat.reduceMul, Nat.reduceSub, Nat.reduceBEq, Int.reduceToNat, Int.reduceLE, Int.reduceLT, Int.reduceNeg, Nat.reduceMod, sid_ne1, sid_ne2, sid_inj, sid_mod, gT, TK.isInt, TK.agg, Array.toList, h0a, h3a, h4a, hun]
        refine ⟨fun h => absurd h (by omega), fun _ => ?_⟩
        have : i = 6 := by omega
        rw [this]
theorem c_impl_PointsOf (u : Nat) (hs : u < 64) : AC Try.prog 188 [int u] (.fr 3 1 (iL (ofN (ptsP u 6)))) := by
  refine AC.go (rs := [.tmp 2]) T_ok mixed Try.func188 rfl rfl rfl (by kernel_rfl) fun hl => ?_
  simp (maxSteps := 5000000) -dsimp only [↓gp, gq, reduceCtorEq, Nat.reduceEqDiff, Nat.reduceLT, Nat.reduceLeDiff, Nat.reduceAdd, Nat.reduceMul, Nat.reduceSub, Nat.reduceBEq, Int.reduceToNat, Int.reduceLE, Int.reduceLT, Int.reduceNeg, Nat.reduceMod, sid_ne1, sid_ne2, sid_inj, sid_mod, gT, TK.isInt, TK.agg, Array.toList]
  refine askK_of (c_impl_IsSet 6 u) ?_
  have hin : inSet 6 (u : Int) = true := by unfold inSet; exact decide_eq_true ⟨by omega, by omega, by omega, by simpa using (by omega : (u : Int) < 64)⟩
  rw [hin]
  simp (maxSteps := 5000000) -dsimp only [↓gp, gq, reduceCtorEq, Nat.reduceEqDiff, Nat.reduceLT, Nat.reduceLeDiff, Nat.reduceAdd, Nat.reduceMul, Nat.reduceSub, Nat.reduceBEq, Int.reduceToNat, Int.reduceLE, Int.reduceLT, Int.reduceNeg, Nat.reduceMod, sid_ne1, sid_ne2, sid_inj, sid_mod, gT, TK.isInt, TK.agg, Array.toList]
  refine loop_of (fun (za : Nat × Nat) s => match za with | (i, v) => s.sl 0 = int u ∧ s.sl 3 = .own 3 v ∧ s.rw 3 = ⟨v, .sli 3 1 false (iL (ofN (ptsP u i)))⟩ ∧ s.sl 4 = int i ∧ (i ≤ 6)) (fun (i, v) => 6 - i) ((0, 1)) (by refine ⟨?_, ?_, ?_, ?_, by omega⟩ <;> (first | (simp (maxSteps := 5000000) -dsimp only [gr, Nat.reduceEqDiff, Nat.reduceLT, Nat.reduceAdd, Nat.reduceMod, Nat.reduceBEq, sid_mod, sid_ne1, sid_ne2, sid_inj]; first | done | rfl | (simp; done)) | assumption | rfl)) ?_
  intro (i, v) sa ⟨h0a, h3a, r3a, h4a, hIa⟩
  have hpl := ptsP_len u i
  have hun : IntKind.u64.wrap (i : Int) = (i : Int) := uwrap_id (by omega)
  by_cases hi : i < 6
  · have hbit := bit_i64 u hs i hi
    simp (maxSteps := 5000000) -dsimp only [↓gp, gq, reduceCtorEq, Nat.reduceEqDiff, Nat.reduceLT, Nat.reduceLeDiff, Nat.reduceAdd, Nat.reduceMul, Nat.reduceSub, Nat.reduceBEq, Int.reduceToNat, Int.reduceLE, Int.reduceLT, Int.reduceNeg, Nat.reduceMod, sid_ne1, sid_ne2, sid_inj, sid_mod, gT, TK.isInt, TK.agg, Array.toList, h0a, h3a, r3a, h4a, hun, hbit]
    refine ⟨fun _ => ⟨fun hb => ⟨by rw [ofN_length]; omega, ?_⟩, fun hb => ?_⟩, fun h => absurd h (by omega)⟩
    · have e : ofN (ptsP u i) ++ [(i : Int)] = ofN (ptsP u (i + 1)) := by rw [ptsP_yes hb, ofN_append, ofN_one]
      exact again_of ((i + 1, v + 1)) (by refine ⟨?_, ?_, ?_, ?_, by dsimp only; omega⟩ <;> (first | (simp (maxSteps := 5000000) -dsimp only [gr, Nat.reduceEqDiff, Nat.reduceLT, Nat.reduceAdd, Nat.reduceMod, Nat.reduceBEq, sid_mod, sid_ne1, sid_ne2, sid_inj, h0a, h3a, r3a, h4a, wrap_nat hi (by omega), e]; first | done | rfl | (simp; done)) | assumption | rfl)) (by first | omega | (simp only; omega) | (dsimp only; omega) | (show _ < _; simp; omega))
    · have e := ptsP_no hb
      exact again_of ((i + 1, v)) (by refine ⟨?_, ?_, ?_, ?_, by dsimp only; omega⟩ <;> (first | (simp (maxSteps := 5000000) -dsimp only [gr, Nat.reduceEqDiff, Nat.reduceLT, Nat.reduceAdd, Nat.reduceMod, Nat.reduceBEq, sid_mod, sid_ne1, sid_ne2, sid_inj, h0a, h3a, r3a, h4a, wrap_nat hi (by omega), e]; first | done | rfl | (simp; done)) | assumption | rfl)) (by first | omega | (simp only; omega) | (dsimp only; omega) | (show _ < _; simp; omega))
  · simp (maxSteps := 5000000) -dsimp only [↓gp, gq, reduceCtorEq, Nat.reduceEqDiff, Nat.reduceLT, Nat.reduceLeDiff, Nat.reduceAdd, Nat.reduceMul, Nat.reduceSub, Nat.reduceBEq, Int.reduceToNat, Int.reduceLE, Int.reduceLT, Int.reduceNeg, Nat.reduceMod, sid_ne1, sid_ne2, sid_inj, sid_mod, gT, TK.isInt, TK.agg, Array.toList, h0a, h3a, r3a, h4a, hun]
    refine ⟨fun h => absurd h (by omega), fun _ => ?_⟩
    have : i = 6 := by omega
    rw [this]
/-- The points' letters, one by one. -/
def lets (l : List Nat) : ByteArray := ⟨(l.map fun j => UInt8.ofNat (97 + j)).toArray⟩
theorem strB_lets (l : List Nat) (i : Nat) (h : i < 6) : strB (lets l) ++ [PV.v (.int .u8 (97 + i : Nat))] = strB (lets (l ++ [i])) := by
  unfold strB lets
  have : (UInt8.ofNat (97 + i)).toNat = 97 + i := by simp; omega
  simp only [List.map_append, List.map_cons, List.map_nil, List.toList_toArray, this]
theorem c_impl_SetText (s : Int) : AC Try.prog 155 [int s] (.im (str (setTI s))) := by
  refine AC.go (rs := [.tmp 2]) T_ok mixed Try.func155 rfl rfl rfl (by kernel_rfl) fun hl => ?_
  simp (maxSteps := 5000000) -dsimp only [↓gp, gq, reduceCtorEq, Nat.reduceEqDiff, Nat.reduceLT, Nat.reduceLeDiff, Nat.reduceAdd, Nat.reduceMul, Nat.reduceSub, Nat.reduceBEq, Int.reduceToNat, Int.reduceLE, Int.reduceLT, Int.reduceNeg, Nat.reduceMod, sid_ne1, sid_ne2, sid_inj, sid_mod, gT, TK.isInt, TK.agg, Array.toList]
  refine askK_of (c_impl_IsSet 6 s) ?_
  have hin : inSet 6 s = decide (0 ≤ s ∧ s < 64) := by
    unfold inSet
    refine decide_eq_decide.2 ⟨fun h => ⟨h.2.2.1, by simpa using h.2.2.2⟩, fun h => ⟨by omega, by omega, h.1, by simpa using h.2⟩⟩
  rw [hin]
  simp (maxSteps := 5000000) -dsimp only [↓gp, gq, reduceCtorEq, Nat.reduceEqDiff, Nat.reduceLT, Nat.reduceLeDiff, Nat.reduceAdd, Nat.reduceMul, Nat.reduceSub, Nat.reduceBEq, Int.reduceToNat, Int.reduceLE, Int.reduceLT, Int.reduceNeg, Nat.reduceMod, sid_ne1, sid_ne2, sid_inj, sid_mod, gT, TK.isInt, TK.agg, Array.toList]
  unfold setTI
  refine ⟨fun h => ?_, fun h => ?_⟩
  · rw [if_neg (fun hc => by rw [decide_eq_true hc] at h; cases h)]
  · have h : 0 ≤ s ∧ s < 64 := by simpa using h
    rw [if_pos h]
    obtain ⟨u, rfl⟩ : ∃ u : Nat, s = u := ⟨s.toNat, by omega⟩
    rw [Int.toNat_natCast]
    have hu : u < 64 := by omega
    refine ⟨fun h0 => ?_, fun h0 => ?_⟩
    · have : u = 0 := by
        have : (u : Int) = 0 := by simpa using h0
        omega
      rw [this]; rfl
    · have hne : u ≠ 0 := fun e => by rw [e] at h0; simp at h0
      have hse : setTx u = lets (ptsP u 6) := if_neg hne
      rw [hse]
      refine ⟨by decide, askK_of (c_impl_PointsOf u hu) ?_⟩
      simp (maxSteps := 5000000) -dsimp only [↓gp, gq, reduceCtorEq, Nat.reduceEqDiff, Nat.reduceLT, Nat.reduceLeDiff, Nat.reduceAdd, Nat.reduceMul, Nat.reduceSub, Nat.reduceBEq, Int.reduceToNat, Int.reduceLE, Int.reduceLT, Int.reduceNeg, Nat.reduceMod, sid_ne1, sid_ne2, sid_inj, sid_mod, gT, TK.isInt, TK.agg, Array.toList, ofN_length]
      have hpl := ptsP_len u 6
      have hpm : ∀ k, k < (ptsP u 6).length → (ptsP u 6).getD k 0 < 6 := fun k hk => List.mem_range.1 (List.mem_filter.1 (getD_mem 0 hk)).1
      generalize ptsP u 6 = l at *
      have hz0 : lets (l.take 0) = ⟨#[]⟩ := rfl
      refine loop_of (fun (za : Nat × Nat) s => match za with | (k, v) => s.sl 3 = .own 11 v ∧ s.rw 11 = ⟨v, .sli 5 1 false (strB (lets (l.take k)))⟩ ∧ s.sl 13 = .own 13 1 ∧ s.rw 13 = ⟨1, .sli 3 1 false (iL (ofN l))⟩ ∧ s.sl 14 = int l.length ∧ s.sl 15 = int k ∧ (k ≤ l.length)) (fun (k, v) => l.length - k) ((0, 1)) (by refine ⟨?_, ?_, ?_, ?_, ?_, ?_, by omega⟩ <;> (first | (simp (maxSteps := 5000000) -dsimp only [gr, Nat.reduceEqDiff, Nat.reduceLT, Nat.reduceAdd, Nat.reduceMod, Nat.reduceBEq, sid_mod, sid_ne1, sid_ne2, sid_inj, hz0, strB_nil, List.replicate]; first | done | rfl | (simp; done)) | assumption | rfl)) ?_
      intro (k, v) sa ⟨h3a, r11a, h13a, r13a, h14a, h15a, hIa⟩
      have hlen : (strB (lets (l.take k))).length ≤ 6 := by rw [strB_length]; show ((l.take k).map _).toArray.size ≤ 6; simp; omega
      by_cases hk : k < l.length
      · have hge : (ofN l).getD k 0 = ((l.getD k 0 : Nat) : Int) := ofN_getD hk
        have hm := hpm k hk
        have hw := wrap_nat hk (by omega)
        have hw1 : IntKind.i64.wrap (97 + ((l.getD k 0 : Nat) : Int)) = ((97 + l.getD k 0 : Nat) : Int) := by rw [wrap_id (by omega) (by omega)]; rfl
        have hw8 : IntKind.u8.wrap ((97 + l.getD k 0 : Nat) : Int) = ((97 + l.getD k 0 : Nat) : Int) := by
          generalize l.getD k 0 = x at hm
          simp [IntKind.wrap, IntKind.bits, IntKind.signed]
          omega
        have e : strB (lets (l.take k)) ++ [PV.v (.int .u8 (97 + l.getD k 0 : Nat))] = strB (lets (l.take (k + 1))) := by rw [strB_lets _ _ hm, take_snoc 0 hk]
        simp (maxSteps := 5000000) -dsimp only [↓gp, gq, reduceCtorEq, Nat.reduceEqDiff, Nat.reduceLT, Nat.reduceLeDiff, Nat.reduceAdd, Nat.reduceMul, Nat.reduceSub, Nat.reduceBEq, Int.reduceToNat, Int.reduceLE, Int.reduceLT, Int.reduceNeg, Nat.reduceMod, sid_ne1, sid_ne2, sid_inj, sid_mod, gT, TK.isInt, TK.agg, Array.toList, h3a, r11a, h13a, r13a, h14a, h15a, ofN_length, hge, hw1, hw8, lit_u8, conv_own, cvRow_strB]
        refine ⟨fun _ => ⟨hk, hk, ?_, by omega, again_of ((k + 1, v + 1)) (by refine ⟨?_, ?_, ?_, ?_, ?_, ?_, by dsimp only; omega⟩ <;> (first | (simp (maxSteps := 5000000) -dsimp only [gr, Nat.reduceEqDiff, Nat.reduceLT, Nat.reduceAdd, Nat.reduceMod, Nat.reduceBEq, sid_mod, sid_ne1, sid_ne2, sid_inj, h3a, r11a, h13a, r13a, h14a, h15a, hw, e]; first | done | rfl | (simp; done)) | assumption | rfl)) (by first | omega | (simp only; omega) | (dsimp only; omega) | (show _ < _; simp; omega))⟩, fun h => absurd hk h⟩
        intro p hp
        rw [List.mem_singleton.1 hp]; rfl
      · simp (maxSteps := 5000000) -dsimp only [↓gp, gq, reduceCtorEq, Nat.reduceEqDiff, Nat.reduceLT, Nat.reduceLeDiff, Nat.reduceAdd, Nat.reduceMul, Nat.reduceSub, Nat.reduceBEq, Int.reduceToNat, Int.reduceLE, Int.reduceLT, Int.reduceNeg, Nat.reduceMod, sid_ne1, sid_ne2, sid_inj, sid_mod, gT, TK.isInt, TK.agg, Array.toList, h3a, r11a, h13a, r13a, h14a, h15a, ofN_length, conv_own, cvRow_strB]
        refine ⟨fun h => absurd h hk, fun _ => ?_⟩
        rw [List.take_of_length_le (by omega)]
end Go.Proofs.Ytnfpeinbdfmlnaa

namespace Go.Proofs.Ytnfpeinbdfmlnaa
open Go.Abs
set_option linter.unusedSimpArgs false
set_option linter.unusedVariables false

theorem setTI_size (s : Int) : (setTI s).size ≤ 6 := by
  unfold setTI setTx
  split
  · split
    · show 1 ≤ 6; omega
    · exact txP_size _ _
  · show 0 ≤ 6; omega
theorem joinP_size {l : List ByteArray} {sep : ByteArray} (h : ∀ i, i < l.length → (l.getD i ⟨#[]⟩).size ≤ 6) (hs : sep.size ≤ 1) : ∀ i, i ≤ l.length → (joinP l sep i).size ≤ 7 * i := by
  intro i
  induction i with
  | zero => intro _; exact Nat.le_refl _
  | succ i ih =>
    intro hi
    have h1 := ih (by omega)
    have h2 := h i (by omega)
    unfold joinP
    rw [ByteArray.size_append]
    split
    · omega
    · rw [ByteArray.size_append]; omega
theorem lib_join_snoc (sep : List UInt8) : ∀ (xs : List (List UInt8)) (x : List UInt8), xs ≠ [] → Go.Lib.join (xs ++ [x]) sep = Go.Lib.join xs sep ++ sep ++ x := by
  intro xs x h
  cases xs with
  | nil => exact absurd rfl h
  | cons y r =>
    rw [List.cons_append, Go.Lib.join_cons, Go.Lib.join_cons]
    simp [Go.Lib.joinTail]
theorem joinP_eq (l : List ByteArray) (sep : ByteArray) : ∀ i, i ≤ l.length → joinP l sep i = joinB (l.take i) sep := by
  intro i
  induction i with
  | zero => intro _; rfl
  | succ i ih =>
    intro hi
    have hi : i < l.length := by omega
    rw [joinP, ih (by omega), take_snoc ⟨#[]⟩ hi]
    unfold joinB
    rw [List.map_append, List.map_cons, List.map_nil]
    by_cases h0 : i = 0
    · subst h0
      rw [if_pos rfl]
      refine ByteArray.ext ?_
      simp [Go.Lib.join_nil, Go.Lib.join_one]
    · rw [if_neg h0, lib_join_snoc _ _ _ (by intro e; have := congrArg List.length e; rw [List.length_map, List.length_take, List.length_nil] at this; omega)]
      refine ByteArray.ext ?_
      simp
def setsTx (l : List Int) : ByteArray := joinB (l.map setTI) ⟨#[44]⟩
theorem c_spec_SetsText (l : List Int) (hN : l.length ≤ 500) : AC Try.prog 101 [ints l] (.im (str (setsTx l))) := by
  refine AC.go (rs := [.tmp 2]) T_ok mixed Try.func101 rfl rfl rfl (by kernel_rfl) fun hl => ?_
  simp (maxSteps := 5000000) -dsimp only [↓gp, gq, reduceCtorEq, Nat.reduceEqDiff, Nat.reduceLT, Nat.reduceLeDiff, Nat.reduceAdd, Nat.reduceMul, Nat.reduceSub, Nat.reduceBEq, Int.reduceToNat, Int.reduceLE, Int.reduceLT, Int.reduceNeg, Nat.reduceMod, sid_ne1, sid_ne2, sid_inj, sid_mod, gT, TK.isInt, TK.agg, Array.toList]
  refine loop_of (fun (za : Nat × Nat) s => match za with | (k, v) => s.sl 0 = ints l ∧ s.sl 3 = .own 5 v ∧ s.rw 5 = ⟨v, .sli 9 1 false (sL ((l.take k).map setTI))⟩ ∧ s.sl 4 = int k ∧ (k ≤ l.length)) (fun (k, v) => l.length - k) ((0, 1)) (by refine ⟨?_, ?_, ?_, ?_, by omega⟩ <;> (first | (simp (maxSteps := 5000000) -dsimp only [gr, Nat.reduceEqDiff, Nat.reduceLT, Nat.reduceAdd, Nat.reduceMod, Nat.reduceBEq, sid_mod, sid_ne1, sid_ne2, sid_inj]; first | done | rfl | (simp; done)) | assumption | rfl)) ?_
  intro (k, v) sa ⟨h0a, h3a, r5a, h4a, hIa⟩
  simp (maxSteps := 5000000) -dsimp only [↓gp, gq, reduceCtorEq, Nat.reduceEqDiff, Nat.reduceLT, Nat.reduceLeDiff, Nat.reduceAdd, Nat.reduceMul, Nat.reduceSub, Nat.reduceBEq, Int.reduceToNat, Int.reduceLE, Int.reduceLT, Int.reduceNeg, Nat.reduceMod, sid_ne1, sid_ne2, sid_inj, sid_mod, gT, TK.isInt, TK.agg, Array.toList, h0a, h3a, r5a, h4a]
  refine ⟨fun h => ⟨h, h, askK_of (c_spec_SetText _) ?_⟩, fun h => ?_⟩
  · simp (maxSteps := 5000000) -dsimp only [↓gp, gq, reduceCtorEq, Nat.reduceEqDiff, Nat.reduceLT, Nat.reduceLeDiff, Nat.reduceAdd, Nat.reduceMul, Nat.reduceSub, Nat.reduceBEq, Int.reduceToNat, Int.reduceLE, Int.reduceLT, Int.reduceNeg, Nat.reduceMod, sid_ne1, sid_ne2, sid_inj, sid_mod, gT, TK.isInt, TK.agg, Array.toList, h0a, h3a, r5a, h4a]
    have e : (l.take (k + 1)).map setTI = (l.take k).map setTI ++ [setTI (l.getD k 0)] := by rw [take_snoc 0 h]; simp
    refine ⟨by rw [List.length_map, List.length_take]; omega, again_of ((k + 1, v + 1)) (by refine ⟨?_, ?_, ?_, ?_, by dsimp only; omega⟩ <;> (first | (simp (maxSteps := 5000000) -dsimp only [gr, Nat.reduceEqDiff, Nat.reduceLT, Nat.reduceAdd, Nat.reduceMod, Nat.reduceBEq, sid_mod, sid_ne1, sid_ne2, sid_inj, h0a, h3a, r5a, h4a, wrap_nat h (show l.length ≤ 9223372036854775807 by omega), e]; first | done | rfl | (simp; done)) | assumption | rfl)) (by first | omega | (simp only; omega) | (dsimp only; omega) | (show _ < _; simp; omega))⟩
  · have ht : l.take k = l := List.take_of_length_le (by omega)
    rw [ht]
    have hjs := joinP_size (l := l.map setTI) (sep := ⟨#[44]⟩) (fun i hi => by
      have hi : i < l.length := by simpa using hi
      have : (l.map setTI).getD i ⟨#[]⟩ = setTI l[i] := by simp [List.getD, hi]
      rw [this]; exact setTI_size _) (Nat.le_refl 1)
    refine askK_of (c_spec_Join (l.map setTI) ⟨#[44]⟩ (by rw [List.length_map]; omega) (fun i hi => ?_)) ?_
    · have := hjs i hi
      rw [List.length_map] at hi
      have h1 : (⟨#[44]⟩ : ByteArray).size = 1 := rfl
      omega
    · have e := joinP_eq (l.map setTI) ⟨#[44]⟩ (l.map setTI).length (Nat.le_refl _)
      rw [List.take_length] at e
      rw [e]
      simp (maxSteps := 5000000) -dsimp only [↓gp, gq, reduceCtorEq, Nat.reduceEqDiff, Nat.reduceLT, Nat.reduceLeDiff, Nat.reduceAdd, Nat.reduceMul, Nat.reduceSub, Nat.reduceBEq, Int.reduceToNat, Int.reduceLE, Int.reduceLT, Int.reduceNeg, Nat.reduceMod, sid_ne1, sid_ne2, sid_inj, sid_mod, gT, TK.isInt, TK.agg, Array.toList, h0a, h3a, r5a, h4a]
      rfl
end Go.Proofs.Ytnfpeinbdfmlnaa

namespace Go.Proofs.Ytnfpeinbdfmlnaa
open Go.Abs Go.Shelf
set_option linter.unusedSimpArgs false
set_option linter.unusedVariables false

def ren156 : Go.Shelf.Ren where
  f := fun x => match x with | 156 => 156 | 165 => 189 | 166 => 190 | 169 => 191 | 240 => 221 | 241 => 222 | 276 => 235 | 277 => 236 | n => n
  t := fun x => match x with | 31 => 131 | 9 => 9 | 3 => 3 | 4 => 4 | 0 => 0 | 20 => 20 | 72 => 151 | 76 => 155 | 70 => 149 | 37 => 147 | 75 => 154 | 127 => 175 | 164 => 185 | 5 => 5 | 80 => 157 | n => n
  g := fun x => x
theorem lays156 : Lays.n156 Try.prog ren156 where
  mixed := mixed
  f156 := (show Try.prog.funcs[156]? = some _ from Try.func156).trans (congrArg some (by kernel_rfl))
  f165 := (show Try.prog.funcs[189]? = some _ from Try.func189).trans (congrArg some (by kernel_rfl))
  f166 := (show Try.prog.funcs[190]? = some _ from Try.func190).trans (congrArg some (by kernel_rfl))
  f169 := (show Try.prog.funcs[191]? = some _ from Try.func191).trans (congrArg some (by kernel_rfl))
  f240 := (show Try.prog.funcs[221]? = some _ from Try.func221).trans (congrArg some (by kernel_rfl))
  f241 := (show Try.prog.funcs[222]? = some _ from Try.func222).trans (congrArg some (by kernel_rfl))
  f276 := (show Try.prog.funcs[235]? = some _ from Try.func235).trans (congrArg some (by kernel_rfl))
  f277 := (show Try.prog.funcs[236]? = some _ from Try.func236).trans (congrArg some (by kernel_rfl))
  t0 := Try.underlying0
  a0 := Try.isAgg0
  z0 := Try.sizeOf0
  v0 := Try.zeroValue0
  t3 := Try.underlying3
  a3 := Try.isAgg3
  z3 := Try.sizeOf3
  v3 := Try.zeroValue3
  t4 := Try.underlying4
  a4 := Try.isAgg4
  z4 := Try.sizeOf4
  v4 := Try.zeroValue4
  t9 := Try.underlying9
  a9 := Try.isAgg9
  z9 := Try.sizeOf9
  v9 := Try.zeroValue9
  t20 := Try.underlying20
  a20 := Try.isAgg20
  z20 := Try.sizeOf20
  v20 := Try.zeroValue20
  t31 := Try.underlying131
  a31 := Try.isAgg131
  z31 := Try.sizeOf131
  v31 := Try.zeroValue131
  t37 := Try.underlying147
  a37 := Try.isAgg147
  z37 := Try.sizeOf147
  v37 := Try.zeroValue147
  t70 := Try.underlying149
  a70 := Try.isAgg149
  z70 := Try.sizeOf149
  v70 := Try.zeroValue149
  t72 := Try.underlying151
  a72 := Try.isAgg151
  z72 := Try.sizeOf151
  v72 := Try.zeroValue151
  t75 := Try.underlying154
  a75 := Try.isAgg154
  z75 := Try.sizeOf154
  v75 := Try.zeroValue154
  t76 := Try.underlying155
  a76 := Try.isAgg155
  z76 := Try.sizeOf155
  v76 := Try.zeroValue155
  t127 := Try.underlying175
  a127 := Try.isAgg175
  z127 := Try.sizeOf175
  v127 := Try.zeroValue175
  t164 := Try.underlying185
  a164 := Try.isAgg185
  z164 := Try.sizeOf185
  v164 := Try.zeroValue185
theorem extra156 : Builder.Extra Try.prog ren156 where
  sizeBuilder := by kernel_rfl
  liesBuilder := by kernel_rfl
  t5 := Try.underlying5
  a5 := Try.isAgg5
  z5 := Try.sizeOf5
  v5 := Try.zeroValue5
  infoByte := by kernel_rfl
  cellsByte := by kernel_rfl
  sizeByte := by kernel_rfl
  neB5 := by decide
theorem c_strings_Join (l : List ByteArray) (sep : ByteArray) (hN : l.length ≤ 140737488355328) (hlen : (joinB l sep).size ≤ 140737488355328) : AC Try.prog 156 [.sl false 1 (sL l), str sep] (.im (str (joinB l sep))) :=
  join_AC lays156 extra156 ⟨_, Try.func156, by kernel_rfl, by kernel_rfl⟩ l sep hN hlen
theorem c_impl_SetsText (l : List Int) (hN : l.length ≤ 500) : AC Try.prog 103 [ints l] (.im (str (setsTx l))) := by
  refine AC.go (rs := [.tmp 2]) T_ok mixed Try.func103 rfl rfl rfl (by kernel_rfl) fun hl => ?_
  simp (maxSteps := 5000000) -dsimp only [↓gp, gq, reduceCtorEq, Nat.reduceEqDiff, Nat.reduceLT, Nat.reduceLeDiff, Nat.reduceAdd, Nat.reduceMul, Nat.reduceSub, Nat.reduceBEq, Int.reduceToNat, Int.reduceLE, Int.reduceLT, Int.reduceNeg, Nat.reduceMod, sid_ne1, sid_ne2, sid_inj, sid_mod, gT, TK.isInt, TK.agg, Array.toList]
  refine ⟨by omega, by omega, ?_⟩
  have hz : sL ((l.take 0).map setTI) = [] := rfl
  refine loop_of (fun (za : Nat × Nat) s => match za with | (k, v) => s.sl 3 = .own 8 v ∧ s.rw 8 = ⟨v, .sli 9 1 false (sL ((l.take k).map setTI))⟩ ∧ s.sl 9 = ints l ∧ s.sl 10 = int l.length ∧ s.sl 11 = int k ∧ (k ≤ l.length)) (fun (k, v) => l.length - k) ((0, 1)) (by refine ⟨?_, ?_, ?_, ?_, ?_, by omega⟩ <;> (first | (simp (maxSteps := 5000000) -dsimp only [gr, Nat.reduceEqDiff, Nat.reduceLT, Nat.reduceAdd, Nat.reduceMod, Nat.reduceBEq, sid_mod, sid_ne1, sid_ne2, sid_inj, hz, List.replicate]; first | done | rfl | (simp; done)) | assumption | rfl)) ?_
  intro (k, v) sa ⟨h3a, r8a, h9a, h10a, h11a, hIa⟩
  simp (maxSteps := 5000000) -dsimp only [↓gp, gq, reduceCtorEq, Nat.reduceEqDiff, Nat.reduceLT, Nat.reduceLeDiff, Nat.reduceAdd, Nat.reduceMul, Nat.reduceSub, Nat.reduceBEq, Int.reduceToNat, Int.reduceLE, Int.reduceLT, Int.reduceNeg, Nat.reduceMod, sid_ne1, sid_ne2, sid_inj, sid_mod, gT, TK.isInt, TK.agg, Array.toList, h3a, r8a, h9a, h10a, h11a]
  refine ⟨fun h => ⟨h, h, askK_of (c_impl_SetText _) ?_⟩, fun h => ?_⟩
  · simp (maxSteps := 5000000) -dsimp only [↓gp, gq, reduceCtorEq, Nat.reduceEqDiff, Nat.reduceLT, Nat.reduceLeDiff, Nat.reduceAdd, Nat.reduceMul, Nat.reduceSub, Nat.reduceBEq, Int.reduceToNat, Int.reduceLE, Int.reduceLT, Int.reduceNeg, Nat.reduceMod, sid_ne1, sid_ne2, sid_inj, sid_mod, gT, TK.isInt, TK.agg, Array.toList, h3a, r8a, h9a, h10a, h11a]
    have e : (l.take (k + 1)).map setTI = (l.take k).map setTI ++ [setTI (l.getD k 0)] := by rw [take_snoc 0 h]; simp
    refine ⟨by rw [List.length_map, List.length_take]; omega, again_of ((k + 1, v + 1)) (by refine ⟨?_, ?_, ?_, ?_, ?_, by dsimp only; omega⟩ <;> (first | (simp (maxSteps := 5000000) -dsimp only [gr, Nat.reduceEqDiff, Nat.reduceLT, Nat.reduceAdd, Nat.reduceMod, Nat.reduceBEq, sid_mod, sid_ne1, sid_ne2, sid_inj, h3a, r8a, h9a, h10a, h11a, wrap_nat h (show l.length ≤ 9223372036854775807 by omega), e]; first | done | rfl | (simp; done)) | assumption | rfl)) (by first | omega | (simp only; omega) | (dsimp only; omega) | (show _ < _; simp; omega))⟩
  · have ht : l.take k = l := List.take_of_length_le (by omega)
    rw [ht]
    have hjs := joinP_size (l := l.map setTI) (sep := ⟨#[44]⟩) (fun i hi => by
      have hi : i < l.length := by simpa using hi
      have : (l.map setTI).getD i ⟨#[]⟩ = setTI l[i] := by simp [List.getD, hi]
      rw [this]; exact setTI_size _) (Nat.le_refl 1) (l.map setTI).length (Nat.le_refl _)
    rw [joinP_eq _ _ _ (Nat.le_refl _), List.take_length, List.length_map] at hjs
    refine askK_of (c_strings_Join (l.map setTI) ⟨#[44]⟩ (by rw [List.length_map]; omega) (by omega)) ?_
    simp (maxSteps := 5000000) -dsimp only [↓gp, gq, reduceCtorEq, Nat.reduceEqDiff, Nat.reduceLT, Nat.reduceLeDiff, Nat.reduceAdd, Nat.reduceMul, Nat.reduceSub, Nat.reduceBEq, Int.reduceToNat, Int.reduceLE, Int.reduceLT, Int.reduceNeg, Nat.reduceMod, sid_ne1, sid_ne2, sid_inj, sid_mod, gT, TK.isInt, TK.agg, Array.toList, h3a, r8a, h9a, h10a, h11a]
    rfl
end Go.Proofs.Ytnfpeinbdfmlnaa

namespace Go.Proofs.Ytnfpeinbdfmlnaa
open Go.Abs Go.Shelf
set_option linter.unusedSimpArgs false
set_option linter.unusedVariables false

def misTx (l : List Int) : ByteArray := if l.length = 0 then ⟨#[110, 111, 110, 101]⟩ else setsTx l
noncomputable def shelO (n : Int) (xs : List Int) : ByteArray := if isCx n xs = true then misTx ((fshO n xs).getD []) else ⟨#[]⟩
theorem c_spec_ShellingText (n : Int) (xs : List Int) : AC Try.prog 54 [.ag [int n, ints xs]] (.im (str (shelO n xs))) := by
  refine AC.go (rs := [.tmp 2]) T_ok mixed Try.func54 rfl rfl rfl (by kernel_rfl) fun hl => ?_
  simp (maxSteps := 5000000) -dsimp only [↓gp, gq, reduceCtorEq, Nat.reduceEqDiff, Nat.reduceLT, Nat.reduceLeDiff, Nat.reduceAdd, Nat.reduceMul, Nat.reduceSub, Nat.reduceBEq, Int.reduceToNat, Int.reduceLE, Int.reduceLT, Int.reduceNeg, Nat.reduceMod, sid_ne1, sid_ne2, sid_inj, sid_mod, gT, TK.isInt, TK.agg, Array.toList]
  refine askK_of (c_spec_IsComplex n xs) ?_
  simp (maxSteps := 5000000) -dsimp only [↓gp, gq, reduceCtorEq, Nat.reduceEqDiff, Nat.reduceLT, Nat.reduceLeDiff, Nat.reduceAdd, Nat.reduceMul, Nat.reduceSub, Nat.reduceBEq, Int.reduceToNat, Int.reduceLE, Int.reduceLT, Int.reduceNeg, Nat.reduceMod, sid_ne1, sid_ne2, sid_inj, sid_mod, gT, TK.isInt, TK.agg, Array.toList]
  unfold shelO
  refine ⟨fun hc => ?_, fun hc => askK_of (c_spec_FindShelling n xs) ?_⟩
  · have hc : isCx n xs = false := by simpa using hc
    rw [if_neg (by rw [hc]; decide)]
  · have hc : isCx n xs = true := by simpa using hc
    rw [if_pos hc]
    have hfl := fsh_len n xs
    generalize fshO n xs = o at *
    have hno : (!o.isSome) = true → o.getD [] = [] := fun h => by
      cases o with
      | none => rfl
      | some l => cases h
    unfold misTx
    simp (maxSteps := 5000000) -dsimp only [↓gp, gq, reduceCtorEq, Nat.reduceEqDiff, Nat.reduceLT, Nat.reduceLeDiff, Nat.reduceAdd, Nat.reduceMul, Nat.reduceSub, Nat.reduceBEq, Int.reduceToNat, Int.reduceLE, Int.reduceLT, Int.reduceNeg, Nat.reduceMod, sid_ne1, sid_ne2, sid_inj, sid_mod, gT, TK.isInt, TK.agg, Array.toList]
    refine ⟨fun h => ⟨fun h0 => ?_, fun h0 => askK_of (c_spec_SetsText _ (by omega)) ?_⟩, fun h => ?_⟩
    · rw [if_pos (by have := beq_iff_eq.1 h0; omega)]
    · rw [if_neg (by intro e; rw [e] at h0; simp at h0)]
      simp (maxSteps := 5000000) -dsimp only [↓gp, gq, reduceCtorEq, Nat.reduceEqDiff, Nat.reduceLT, Nat.reduceLeDiff, Nat.reduceAdd, Nat.reduceMul, Nat.reduceSub, Nat.reduceBEq, Int.reduceToNat, Int.reduceLE, Int.reduceLT, Int.reduceNeg, Nat.reduceMod, sid_ne1, sid_ne2, sid_inj, sid_mod, gT, TK.isInt, TK.agg, Array.toList]
    · rw [hno h]; rfl
theorem c_impl_ShellingText (n : Int) (xs : List Int) : AC Try.prog 55 [.ag [int n, ints xs]] (.im (str (shelO n xs))) := by
  refine AC.go (rs := [.tmp 2]) T_ok mixed Try.func55 rfl rfl rfl (by kernel_rfl) fun hl => ?_
  simp (maxSteps := 5000000) -dsimp only [↓gp, gq, reduceCtorEq, Nat.reduceEqDiff, Nat.reduceLT, Nat.reduceLeDiff, Nat.reduceAdd, Nat.reduceMul, Nat.reduceSub, Nat.reduceBEq, Int.reduceToNat, Int.reduceLE, Int.reduceLT, Int.reduceNeg, Nat.reduceMod, sid_ne1, sid_ne2, sid_inj, sid_mod, gT, TK.isInt, TK.agg, Array.toList]
  refine askK_of (c_impl_IsComplex n xs) ?_
  simp (maxSteps := 5000000) -dsimp only [↓gp, gq, reduceCtorEq, Nat.reduceEqDiff, Nat.reduceLT, Nat.reduceLeDiff, Nat.reduceAdd, Nat.reduceMul, Nat.reduceSub, Nat.reduceBEq, Int.reduceToNat, Int.reduceLE, Int.reduceLT, Int.reduceNeg, Nat.reduceMod, sid_ne1, sid_ne2, sid_inj, sid_mod, gT, TK.isInt, TK.agg, Array.toList]
  unfold shelO
  refine ⟨fun hc => ?_, fun hc => askK_of (c_impl_FindShelling n xs) ?_⟩
  · have hc : isCx n xs = false := by simpa using hc
    rw [if_neg (by rw [hc]; decide)]
  · have hc : isCx n xs = true := by simpa using hc
    rw [if_pos hc]
    have hfl := fsh_len n xs
    generalize fshO n xs = o at *
    have hno : (!o.isSome) = true → o.getD [] = [] := fun h => by
      cases o with
      | none => rfl
      | some l => cases h
    unfold misTx
    simp (maxSteps := 5000000) -dsimp only [↓gp, gq, reduceCtorEq, Nat.reduceEqDiff, Nat.reduceLT, Nat.reduceLeDiff, Nat.reduceAdd, Nat.reduceMul, Nat.reduceSub, Nat.reduceBEq, Int.reduceToNat, Int.reduceLE, Int.reduceLT, Int.reduceNeg, Nat.reduceMod, sid_ne1, sid_ne2, sid_inj, sid_mod, gT, TK.isInt, TK.agg, Array.toList]
    refine ⟨fun h => ⟨fun h0 => ?_, fun h0 => askK_of (c_impl_SetsText _ (by omega)) ?_⟩, fun h => ?_⟩
    · rw [if_pos (by have := beq_iff_eq.1 h0; omega)]
    · rw [if_neg (by intro e; rw [e] at h0; simp at h0)]
      simp (maxSteps := 5000000) -dsimp only [↓gp, gq, reduceCtorEq, Nat.reduceEqDiff, Nat.reduceLT, Nat.reduceLeDiff, Nat.reduceAdd, Nat.reduceMul, Nat.reduceSub, Nat.reduceBEq, Int.reduceToNat, Int.reduceLE, Int.reduceLT, Int.reduceNeg, Nat.reduceMod, sid_ne1, sid_ne2, sid_inj, sid_mod, gT, TK.isInt, TK.agg, Array.toList]
    · rw [hno h]; rfl
end Go.Proofs.Ytnfpeinbdfmlnaa
