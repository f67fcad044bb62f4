/- DERIVED by an AI agent. -/
import Derived.Test.YtmpjajhklilleaaDoorQ3
import Derived.Lib.ItoaNum
import Derived.Test.YtmpjajhklilleaaDoorA16
namespace Go.Proofs.YtmpjajhklilleaaDoor
open Go.Abs
set_option linter.unusedSimpArgs false
set_option linter.unusedVariables false

theorem setTI_size (s : Int) : (setTI s).size ≤ 6 := by
  unfold setTI setTx
  split
  · split
    · show 1 ≤ 6; omega
    · exact txP_size _ _
  · show 0 ≤ 6; omega
theorem joinP_size {l : List ByteArray} {sep : ByteArray} (h : ∀ i, i < l.length → (l.getD i ⟨#[]⟩).size ≤ 6) (hs : sep.size ≤ 1) : ∀ i, i ≤ l.length → (joinP l sep i).size ≤ 7 * i := by
  intro i
  induction i with
  | zero => intro _; exact Nat.le_refl _
  | succ i ih =>
    intro hi
    have h1 := ih (by omega)
    have h2 := h i (by omega)
    unfold joinP
    rw [ByteArray.size_append]
    split
    · omega
    · rw [ByteArray.size_append]; omega
theorem lib_join_snoc (sep : List UInt8) : ∀ (xs : List (List UInt8)) (x : List UInt8), xs ≠ [] → Go.Lib.join (xs ++ [x]) sep = Go.Lib.join xs sep ++ sep ++ x := by
  intro xs x h
  cases xs with
  | nil => exact absurd rfl h
  | cons y r =>
    rw [List.cons_append, Go.Lib.join_cons, Go.Lib.join_cons]
    simp [Go.Lib.joinTail]
theorem joinP_eq (l : List ByteArray) (sep : ByteArray) : ∀ i, i ≤ l.length → joinP l sep i = joinB (l.take i) sep := by
  intro i
  induction i with
  | zero => intro _; rfl
  | succ i ih =>
    intro hi
    have hi : i < l.length := by omega
    rw [joinP, ih (by omega), take_snoc ⟨#[]⟩ hi]
    unfold joinB
    rw [List.map_append, List.map_cons, List.map_nil]
    by_cases h0 : i = 0
    · subst h0
      rw [if_pos rfl]
      refine ByteArray.ext ?_
      simp [Go.Lib.join_nil, Go.Lib.join_one]
    · rw [if_neg h0, lib_join_snoc _ _ _ (by intro e; have := congrArg List.length e; rw [List.length_map, List.length_take, List.length_nil] at this; omega)]
      refine ByteArray.ext ?_
      simp
def setsTx (l : List Int) : ByteArray := joinB (l.map setTI) ⟨#[44]⟩
theorem c_spec_SetsText (l : List Int) (hN : l.length ≤ 500) : AC Tryd.prog 24 [ints l] (.im (str (setsTx l))) := by
  refine AC.go (rs := [.tmp 2]) T_ok mixed Tryd.func24 rfl rfl rfl (by kernel_rfl) fun hl => ?_
  simp (maxSteps := 5000000) -dsimp only [↓gp, gq, reduceCtorEq, Nat.reduceEqDiff, Nat.reduceLT, Nat.reduceLeDiff, Nat.reduceAdd, Nat.reduceMul, Nat.reduceSub, Nat.reduceBEq, Int.reduceToNat, Int.reduceLE, Int.reduceLT, Int.reduceNeg, Nat.reduceMod, sid_ne1, sid_ne2, sid_inj, sid_mod, gT, TK.isInt, TK.agg, Array.toList]
  refine loop_of (fun (za : Nat × Nat) s => match za with | (k, v) => s.sl 0 = ints l ∧ s.sl 3 = .own 5 v ∧ s.rw 5 = ⟨v, .sli 9 1 false (sL ((l.take k).map setTI))⟩ ∧ s.sl 4 = int k ∧ (k ≤ l.length)) (fun (k, v) => l.length - k) ((0, 1)) (by refine ⟨?_, ?_, ?_, ?_, by omega⟩ <;> (first | (simp (maxSteps := 5000000) -dsimp only [gr, Nat.reduceEqDiff, Nat.reduceLT, Nat.reduceAdd, Nat.reduceMod, Nat.reduceBEq, sid_mod, sid_ne1, sid_ne2, sid_inj]; first | done | rfl | (simp; done)) | assumption | rfl)) ?_
  intro (k, v) sa ⟨h0a, h3a, r5a, h4a, hIa⟩
  simp (maxSteps := 5000000) -dsimp only [↓gp, gq, reduceCtorEq, Nat.reduceEqDiff, Nat.reduceLT, Nat.reduceLeDiff, Nat.reduceAdd, Nat.reduceMul, Nat.reduceSub, Nat.reduceBEq, Int.reduceToNat, Int.reduceLE, Int.reduceLT, Int.reduceNeg, Nat.reduceMod, sid_ne1, sid_ne2, sid_inj, sid_mod, gT, TK.isInt, TK.agg, Array.toList, h0a, h3a, r5a, h4a]
  refine ⟨fun h => ⟨h, h, askK_of (c_spec_SetText _) ?_⟩, fun h => ?_⟩
  · simp (maxSteps := 5000000) -dsimp only [↓gp, gq, reduceCtorEq, Nat.reduceEqDiff, Nat.reduceLT, Nat.reduceLeDiff, Nat.reduceAdd, Nat.reduceMul, Nat.reduceSub, Nat.reduceBEq, Int.reduceToNat, Int.reduceLE, Int.reduceLT, Int.reduceNeg, Nat.reduceMod, sid_ne1, sid_ne2, sid_inj, sid_mod, gT, TK.isInt, TK.agg, Array.toList, h0a, h3a, r5a, h4a]
    have e : (l.take (k + 1)).map setTI = (l.take k).map setTI ++ [setTI (l.getD k 0)] := by rw [take_snoc 0 h]; simp
    refine ⟨by rw [List.length_map, List.length_take]; omega, again_of ((k + 1, v + 1)) (by refine ⟨?_, ?_, ?_, ?_, by dsimp only; omega⟩ <;> (first | (simp (maxSteps := 5000000) -dsimp only [gr, Nat.reduceEqDiff, Nat.reduceLT, Nat.reduceAdd, Nat.reduceMod, Nat.reduceBEq, sid_mod, sid_ne1, sid_ne2, sid_inj, h0a, h3a, r5a, h4a, wrap_nat h (show l.length ≤ 9223372036854775807 by omega), e]; first | done | rfl | (simp; done)) | assumption | rfl)) (by first | omega | (simp only; omega) | (dsimp only; omega) | (show _ < _; simp; omega))⟩
  · have ht : l.take k = l := List.take_of_length_le (by omega)
    rw [ht]
    have hjs := joinP_size (l := l.map setTI) (sep := ⟨#[44]⟩) (fun i hi => by
      have hi : i < l.length := by simpa using hi
      have : (l.map setTI).getD i ⟨#[]⟩ = setTI l[i] := by simp [List.getD, hi]
      rw [this]; exact setTI_size _) (Nat.le_refl 1)
    refine askK_of (c_spec_Join (l.map setTI) ⟨#[44]⟩ (by rw [List.length_map]; omega) (fun i hi => ?_)) ?_
    · have := hjs i hi
      rw [List.length_map] at hi
      have h1 : (⟨#[44]⟩ : ByteArray).size = 1 := rfl
      omega
    · have e := joinP_eq (l.map setTI) ⟨#[44]⟩ (l.map setTI).length (Nat.le_refl _)
      rw [List.take_length] at e
      rw [e]
      simp (maxSteps := 5000000) -dsimp only [↓gp, gq, reduceCtorEq, Nat.reduceEqDiff, Nat.reduceLT, Nat.reduceLeDiff, Nat.reduceAdd, Nat.reduceMul, Nat.reduceSub, Nat.reduceBEq, Int.reduceToNat, Int.reduceLE, Int.reduceLT, Int.reduceNeg, Nat.reduceMod, sid_ne1, sid_ne2, sid_inj, sid_mod, gT, TK.isInt, TK.agg, Array.toList, h0a, h3a, r5a, h4a]
      rfl
end Go.Proofs.YtmpjajhklilleaaDoor

namespace Go.Proofs.YtmpjajhklilleaaDoor
open Go.Abs
set_option linter.unusedSimpArgs false
set_option linter.unusedVariables false

theorem dd_step {u : Nat} (h : u ≠ 0) : Go.Lib.decDigits u = (if u / 10 = 0 then [] else Go.Lib.decDigits (u / 10)) ++ [UInt8.ofNat (48 + u % 10)] := by
  rw [Go.Lib.decDigits]
  by_cases h10 : u < 10
  · rw [dif_pos h10, if_pos (by omega), Nat.mod_eq_of_lt h10]; rfl
  · rw [dif_neg h10, if_neg (by omega)]
theorem dd_len : ∀ (k u : Nat), u < 10 ^ (k + 1) → (Go.Lib.decDigits u).length ≤ k + 1 := by
  intro k
  induction k with
  | zero => intro u h; rw [Go.Lib.decDigits, dif_pos (by omega)]; simp
  | succ k ih =>
    intro u h
    rw [Go.Lib.decDigits]
    by_cases h10 : u < 10
    · rw [dif_pos h10]; simp
    · rw [dif_neg h10, List.length_append]
      have : u / 10 < 10 ^ (k + 1) := by rw [Nat.pow_succ] at h; omega
      have := ih _ this
      simp; omega
def itoaB (n : Int) : ByteArray := ⟨(Go.Lib.itoa n).toArray⟩
theorem itoaB_size {n : Int} (h0 : -9223372036854775808 ≤ n) (h1 : n ≤ 9223372036854775807) : (itoaB n).size ≤ 20 := by
  have e : (itoaB n).size = (Go.Lib.itoa n).length := by simp [itoaB, ByteArray.size]
  rw [e, Go.Lib.itoa]
  split
  · have := dd_len 18 n.natAbs (by omega)
    simp; omega
  · have := dd_len 18 n.toNat (by omega)
    omega
def dgB (d : Nat) : ByteArray := ⟨#[UInt8.ofNat (48 + d)]⟩
theorem dgB_of {d : Nat} (h : d < 10) {x : Int} (hx : x = (d : Int)) : ([IntKind.u8.wrap (IntKind.i64.wrap (48 + x))].foldl (fun r n => r.push (UInt8.ofNat n.toNat)) ByteArray.empty) = dgB d := by
  subst hx
  have : ∀ m : Fin 10, ([IntKind.u8.wrap (IntKind.i64.wrap (48 + (m.val : Nat)))].foldl (fun r n => r.push (UInt8.ofNat n.toNat)) ByteArray.empty) = dgB m.val := by decide +kernel
  exact this ⟨d, h⟩
theorem c_spec_FormatIntG {n : Int} (h0 : -9223372036854775808 ≤ n) (h1 : n ≤ 9223372036854775807) : AC Tryd.prog 17 [int n] (.im (str (itoaB n))) := by
  refine AC.go (rs := [.tmp 2]) T_ok mixed Tryd.func17 rfl rfl rfl (by kernel_rfl) fun hl => ?_
  by_cases hz : n = 0
  · subst hz
    simp (maxSteps := 5000000) -dsimp only [↓gp, gq, reduceCtorEq, Nat.reduceEqDiff, Nat.reduceLT, Nat.reduceLeDiff, Nat.reduceAdd, Nat.reduceMul, Nat.reduceSub, Nat.reduceBEq, Int.reduceToNat, Int.reduceLE, Int.reduceLT, Int.reduceNeg, Nat.reduceMod, sid_ne1, sid_ne2, sid_inj, sid_mod, gT, TK.isInt, TK.agg, Array.toList, show ((0 : Int) == 0) = true from rfl]
    decide +kernel
  have e0 : (n == 0) = false := beq_eq_false_iff_ne.2 hz
  simp (maxSteps := 5000000) -dsimp only [↓gp, gq, reduceCtorEq, Nat.reduceEqDiff, Nat.reduceLT, Nat.reduceLeDiff, Nat.reduceAdd, Nat.reduceMul, Nat.reduceSub, Nat.reduceBEq, Int.reduceToNat, Int.reduceLE, Int.reduceLT, Int.reduceNeg, Nat.reduceMod, sid_ne1, sid_ne2, sid_inj, sid_mod, gT, TK.isInt, TK.agg, Array.toList, e0]
  refine loop_of (fun (za : Int × ByteArray) s => match za with | (m, o) => s.sl 0 = int m ∧ s.sl 3 = bool (decide (n < 0)) ∧ s.sl 4 = str o ∧ ((if m = 0 then [] else Go.Lib.decDigits m.natAbs) ++ o.data.toList = Go.Lib.decDigits n.natAbs ∧ (n < 0 → m ≤ 0) ∧ (0 ≤ n → 0 ≤ m) ∧ m.natAbs ≤ 9223372036854775808 ∧ o.size ≤ 19)) (fun (m, o) => m.natAbs) ((n, ⟨#[]⟩)) (by refine ⟨?_, ?_, ?_, ⟨by rw [if_neg hz]; simp, fun h => Int.le_of_lt h, fun h => h, by omega, by decide⟩⟩ <;> (first | (simp (maxSteps := 5000000) -dsimp only [gr, Nat.reduceEqDiff, Nat.reduceLT, Nat.reduceAdd, Nat.reduceMod, Nat.reduceBEq, sid_mod, sid_ne1, sid_ne2, sid_inj]; first | done | rfl | (simp; done)) | assumption | rfl)) ?_
  intro (m, o) sa ⟨h0a, h3a, h4a, hIa⟩
  obtain ⟨hd, hs1, hs2, hbd, hsz⟩ := hIa
  by_cases hm : m = 0
  · subst hm
    rw [if_pos rfl, List.nil_append] at hd
    simp (maxSteps := 5000000) -dsimp only [↓gp, gq, reduceCtorEq, Nat.reduceEqDiff, Nat.reduceLT, Nat.reduceLeDiff, Nat.reduceAdd, Nat.reduceMul, Nat.reduceSub, Nat.reduceBEq, Int.reduceToNat, Int.reduceLE, Int.reduceLT, Int.reduceNeg, Nat.reduceMod, sid_ne1, sid_ne2, sid_inj, sid_mod, gT, TK.isInt, TK.agg, Array.toList, h0a, h3a, h4a, show ((0 : Int) != 0) = false from rfl]
    have ho : o = ⟨(Go.Lib.decDigits n.natAbs).toArray⟩ := by
      rw [← hd]
    subst ho
    unfold itoaB Go.Lib.itoa
    refine ⟨fun h => ⟨?_, ?_⟩, fun h => ?_⟩
    · show 1 + _ ≤ _
      omega
    · rw [if_pos h]
      refine ByteArray.ext ?_
      simp
    · rw [if_neg h, show n.toNat = n.natAbs by omega]
  · have hne : (m != 0) = true := by rw [bne_iff_ne]; exact hm
    have hst := dd_step (u := m.natAbs) (by omega)
    rw [if_neg hm, hst] at hd
    have hr : m.tmod 10 = if m < 0 then -((m.natAbs % 10 : Nat) : Int) else ((m.natAbs % 10 : Nat) : Int) := by
      split
      · rename_i h
        obtain ⟨a, rfl⟩ : ∃ a : Nat, m = -(a : Int) := ⟨m.natAbs, by omega⟩
        rw [Int.neg_tmod, Int.natAbs_neg, Int.natAbs_natCast]; rfl
      · rename_i h
        obtain ⟨a, rfl⟩ : ∃ a : Nat, m = (a : Int) := ⟨m.natAbs, by omega⟩
        rw [Int.natAbs_natCast]; rfl
    have hq : m.tdiv 10 = if m < 0 then -((m.natAbs / 10 : Nat) : Int) else ((m.natAbs / 10 : Nat) : Int) := by
      split
      · rename_i h
        obtain ⟨a, rfl⟩ : ∃ a : Nat, m = -(a : Int) := ⟨m.natAbs, by omega⟩
        rw [Int.neg_tdiv, Int.natAbs_neg, Int.natAbs_natCast]; rfl
      · rename_i h
        obtain ⟨a, rfl⟩ : ∃ a : Nat, m = (a : Int) := ⟨m.natAbs, by omega⟩
        rw [Int.natAbs_natCast]; rfl
    have hw10 : IntKind.i64.wrap (m.tdiv 10) = m.tdiv 10 := by rw [hq]; exact wrap_id (by split <;> omega) (by split <;> omega)
    simp (maxSteps := 5000000) -dsimp only [↓gp, gq, reduceCtorEq, Nat.reduceEqDiff, Nat.reduceLT, Nat.reduceLeDiff, Nat.reduceAdd, Nat.reduceMul, Nat.reduceSub, Nat.reduceBEq, Int.reduceToNat, Int.reduceLE, Int.reduceLT, Int.reduceNeg, Nat.reduceMod, sid_ne1, sid_ne2, sid_inj, sid_mod, gT, TK.isInt, TK.agg, Array.toList, h0a, h3a, h4a, conv_own, cvRow_one, lit_u8, hne, hw10]
    have hd9 := Nat.mod_lt m.natAbs (show 0 < 10 by decide)
    generalize hdd : m.natAbs % 10 = d at *
    have hlen := congrArg List.length hd
    have hnl := dd_len 18 n.natAbs (by omega)
    have ho : o.data.toList.length = o.size := Array.length_toList
    rw [List.length_append, List.length_append, List.length_singleton, ho] at hlen
    have hds : (dgB d ++ o).size = 1 + o.size := by rw [ByteArray.size_append]; rfl
    have hd1 : (dgB d).size = 1 := rfl
    have hnew : (if m.tdiv 10 = 0 then [] else Go.Lib.decDigits (m.tdiv 10).natAbs) ++ (dgB d ++ o).data.toList = Go.Lib.decDigits n.natAbs := by
      rw [← hd]
      have e1 : (m.tdiv 10).natAbs = m.natAbs / 10 := by rw [hq]; split <;> omega
      have e2 : (m.tdiv 10 = 0) ↔ (m.natAbs / 10 = 0) := by rw [← e1]; omega
      have e3 : (dgB d ++ o).data.toList = [UInt8.ofNat (48 + d)] ++ o.data.toList := by simp [dgB]
      rw [e1, e3, ← List.append_assoc]
      by_cases h : m.natAbs / 10 = 0
      · rw [if_pos h, if_pos (e2.2 h)]
      · rw [if_neg h, if_neg (fun h2 => h (e2.1 h2))]
    have hdec : (m.tdiv 10).natAbs < m.natAbs := by rw [hq]; split <;> omega
    have hsg : (n < 0 → m.tdiv 10 ≤ 0) ∧ (0 ≤ n → 0 ≤ m.tdiv 10) ∧ (m.tdiv 10).natAbs ≤ 9223372036854775808 := by
      rw [hq]
      refine ⟨fun h => ?_, fun h => ?_, ?_⟩ <;> split <;> omega
    refine ⟨by decide, fun hn => ?_, fun hn => ?_⟩
    · have hk := dgB_of (d := d) hd9 (x := IntKind.i64.wrap (0 - m.tmod 10)) (by rw [hr, wrap_id (by split <;> omega) (by split <;> omega)]; split <;> omega)
      rw [hk]
      refine ⟨by omega, by decide, again_of (m.tdiv 10, dgB d ++ o) ⟨by simp (maxSteps := 5000000) -dsimp only [gr, Nat.reduceEqDiff, Nat.reduceLT, Nat.reduceAdd, Nat.reduceMod, Nat.reduceBEq, sid_mod, sid_ne1, sid_ne2, sid_inj, hw10], by simp (maxSteps := 5000000) -dsimp only [gr, Nat.reduceEqDiff, Nat.reduceLT, Nat.reduceAdd, Nat.reduceMod, Nat.reduceBEq, sid_mod, sid_ne1, sid_ne2, sid_inj, h3a], by simp (maxSteps := 5000000) -dsimp only [gr, Nat.reduceEqDiff, Nat.reduceLT, Nat.reduceAdd, Nat.reduceMod, Nat.reduceBEq, sid_mod, sid_ne1, sid_ne2, sid_inj, hk], hnew, hsg.1, hsg.2.1, hsg.2.2, by show (dgB d ++ o).size ≤ 19; omega⟩ hdec⟩
    · have hk := dgB_of (d := d) hd9 (x := m.tmod 10) (by rw [hr] at hn ⊢; split at hn <;> split <;> omega)
      rw [hk]
      refine ⟨by omega, by decide, again_of (m.tdiv 10, dgB d ++ o) ⟨by simp (maxSteps := 5000000) -dsimp only [gr, Nat.reduceEqDiff, Nat.reduceLT, Nat.reduceAdd, Nat.reduceMod, Nat.reduceBEq, sid_mod, sid_ne1, sid_ne2, sid_inj, hw10], by simp (maxSteps := 5000000) -dsimp only [gr, Nat.reduceEqDiff, Nat.reduceLT, Nat.reduceAdd, Nat.reduceMod, Nat.reduceBEq, sid_mod, sid_ne1, sid_ne2, sid_inj, h3a], by simp (maxSteps := 5000000) -dsimp only [gr, Nat.reduceEqDiff, Nat.reduceLT, Nat.reduceAdd, Nat.reduceMod, Nat.reduceBEq, sid_mod, sid_ne1, sid_ne2, sid_inj, hk], hnew, hsg.1, hsg.2.1, hsg.2.2, by show (dgB d ++ o).size ≤ 19; omega⟩ hdec⟩
end Go.Proofs.YtmpjajhklilleaaDoor

namespace Go.Proofs.YtmpjajhklilleaaDoor
open Go.Abs Go.Shelf
set_option linter.unusedSimpArgs false
set_option linter.unusedVariables false

def ren171 : Go.Shelf.Ren where
  f := fun x => match x with | 171 => 30 | 243 => 55 | 246 => 78 | 283 => 95 | 284 => 96 | 285 => 97 | 286 => 98 | 129 => 104 | 317 => 103 | 318 => 105 | 319 => 106 | 320 => 107 | 337 => 109 | 338 => 110 | n => n
  t := fun x => match x with | 3 => 3 | 9 => 9 | 2 => 2 | 4 => 4 | 171 => 100 | 0 => 0 | 53 => 59 | 37 => 45 | 5 => 5 | 173 => 102 | 212 => 107 | 51 => 96 | 20 => 20 | 213 => 108 | 46 => 65 | 232 => 109 | 233 => 110 | n => n
  g := fun x => match x with | 17 => 1 | 18 => 2 | 19 => 3 | n => n
theorem lays171 : LaysM.n171 Tryd.prog ren171 where
  mixed := mixed
  f129 := (show Tryd.prog.funcs[104]? = some _ from Tryd.func104).trans (congrArg some (by kernel_rfl))
  f171 := (show Tryd.prog.funcs[30]? = some _ from Tryd.func30).trans (congrArg some (by kernel_rfl))
  f243 := (show Tryd.prog.funcs[55]? = some _ from Tryd.func55).trans (congrArg some (by kernel_rfl))
  f246 := (show Tryd.prog.funcs[78]? = some _ from Tryd.func78).trans (congrArg some (by kernel_rfl))
  f283 := (show Tryd.prog.funcs[95]? = some _ from Tryd.func95).trans (congrArg some (by kernel_rfl))
  f284 := (show Tryd.prog.funcs[96]? = some _ from Tryd.func96).trans (congrArg some (by kernel_rfl))
  f285 := (show Tryd.prog.funcs[97]? = some _ from Tryd.func97).trans (congrArg some (by kernel_rfl))
  f286 := (show Tryd.prog.funcs[98]? = some _ from Tryd.func98).trans (congrArg some (by kernel_rfl))
  f317 := (show Tryd.prog.funcs[103]? = some _ from Tryd.func103).trans (congrArg some (by kernel_rfl))
  f318 := (show Tryd.prog.funcs[105]? = some _ from Tryd.func105).trans (congrArg some (by kernel_rfl))
  f319 := (show Tryd.prog.funcs[106]? = some _ from Tryd.func106).trans (congrArg some (by kernel_rfl))
  f320 := (show Tryd.prog.funcs[107]? = some _ from Tryd.func107).trans (congrArg some (by kernel_rfl))
  f337 := (show Tryd.prog.funcs[109]? = some _ from Tryd.func109).trans (congrArg some (by kernel_rfl))
  f338 := (show Tryd.prog.funcs[110]? = some _ from Tryd.func110).trans (congrArg some (by kernel_rfl))
  t0 := Tryd.underlying0
  a0 := Tryd.isAgg0
  z0 := Tryd.sizeOf0
  v0 := Tryd.zeroValue0
  t2 := Tryd.underlying2
  a2 := Tryd.isAgg2
  z2 := Tryd.sizeOf2
  v2 := Tryd.zeroValue2
  t3 := Tryd.underlying3
  a3 := Tryd.isAgg3
  z3 := Tryd.sizeOf3
  v3 := Tryd.zeroValue3
  t4 := Tryd.underlying4
  a4 := Tryd.isAgg4
  z4 := Tryd.sizeOf4
  v4 := Tryd.zeroValue4
  t5 := Tryd.underlying5
  a5 := Tryd.isAgg5
  z5 := Tryd.sizeOf5
  v5 := Tryd.zeroValue5
  t9 := Tryd.underlying9
  a9 := Tryd.isAgg9
  z9 := Tryd.sizeOf9
  v9 := Tryd.zeroValue9
  t20 := Tryd.underlying20
  a20 := Tryd.isAgg20
  z20 := Tryd.sizeOf20
  v20 := Tryd.zeroValue20
  t37 := Tryd.underlying45
  a37 := Tryd.isAgg45
  z37 := Tryd.sizeOf45
  v37 := Tryd.zeroValue45
  t46 := Tryd.underlying65
  a46 := Tryd.isAgg65
  z46 := Tryd.sizeOf65
  v46 := Tryd.zeroValue65
  t51 := Tryd.underlying96
  a51 := Tryd.isAgg96
  z51 := Tryd.sizeOf96
  v51 := Tryd.zeroValue96
  t53 := Tryd.underlying59
  a53 := Tryd.isAgg59
  z53 := Tryd.sizeOf59
  v53 := Tryd.zeroValue59
  t171 := Tryd.underlying100
  a171 := Tryd.isAgg100
  z171 := Tryd.sizeOf100
  v171 := Tryd.zeroValue100
  t173 := Tryd.underlying102
  a173 := Tryd.isAgg102
  z173 := Tryd.sizeOf102
  v173 := Tryd.zeroValue102
  t212 := Tryd.underlying107
  a212 := Tryd.isAgg107
  z212 := Tryd.sizeOf107
  v212 := Tryd.zeroValue107
  t213 := Tryd.underlying108
  a213 := Tryd.isAgg108
  z213 := Tryd.sizeOf108
  t232 := Tryd.underlying109
  a232 := Tryd.isAgg109
  z232 := Tryd.sizeOf109
  v232 := Tryd.zeroValue109
  t233 := Tryd.underlying110
  a233 := Tryd.isAgg110
  z233 := Tryd.sizeOf110
  v233 := Tryd.zeroValue110
  g17 := by kernel_rfl
  g18 := by kernel_rfl
  g19 := by kernel_rfl
  i0 := by kernel_rfl
  i2 := by kernel_rfl
  i3 := by kernel_rfl
  i4 := by kernel_rfl
  i5 := by kernel_rfl
  i9 := by kernel_rfl
  i20 := by kernel_rfl
  i37 := by kernel_rfl
  i46 := by kernel_rfl
  i51 := by kernel_rfl
  i53 := by kernel_rfl
  i171 := by kernel_rfl
  i173 := by kernel_rfl
  i212 := by kernel_rfl
  i232 := by kernel_rfl
  i233 := by kernel_rfl
  m17 := by kernel_rfl
  m18 := by kernel_rfl
  m19 := by kernel_rfl
theorem c_strconv_Itoa {n : Int} (h0 : -9223372036854775808 ≤ n) (h1 : n ≤ 9223372036854775807) : AC Tryd.prog 30 [int n] (.im (str (itoaB n))) :=
  itoa_AC lays171 ⟨_, Tryd.func30, by kernel_rfl, by kernel_rfl⟩ (fun _ h => h) h0 h1
theorem c_impl_FormatInt {n : Int} (h0 : -9223372036854775808 ≤ n) (h1 : n ≤ 9223372036854775807) : AC Tryd.prog 19 [int n] (.im (str (itoaB n))) := by
  refine AC.go (rs := [.tmp 2]) T_ok mixed Tryd.func19 rfl rfl rfl (by kernel_rfl) fun hl => ?_
  simp (maxSteps := 5000000) -dsimp only [↓gp, gq, reduceCtorEq, Nat.reduceEqDiff, Nat.reduceLT, Nat.reduceLeDiff, Nat.reduceAdd, Nat.reduceMul, Nat.reduceSub, Nat.reduceBEq, Int.reduceToNat, Int.reduceLE, Int.reduceLT, Int.reduceNeg, Nat.reduceMod, sid_ne1, sid_ne2, sid_inj, sid_mod, gT, TK.isInt, TK.agg, Array.toList]
  refine askK_of (c_strconv_Itoa h0 h1) ?_
  simp (maxSteps := 5000000) -dsimp only [↓gp, gq, reduceCtorEq, Nat.reduceEqDiff, Nat.reduceLT, Nat.reduceLeDiff, Nat.reduceAdd, Nat.reduceMul, Nat.reduceSub, Nat.reduceBEq, Int.reduceToNat, Int.reduceLE, Int.reduceLT, Int.reduceNeg, Nat.reduceMod, sid_ne1, sid_ne2, sid_inj, sid_mod, gT, TK.isInt, TK.agg, Array.toList]
end Go.Proofs.YtmpjajhklilleaaDoor

namespace Go.Proofs.YtmpjajhklilleaaDoor
open Go.Abs Go.Shelf
set_option linter.unusedSimpArgs false
set_option linter.unusedVariables false

def ren156 : Go.Shelf.Ren where
  f := fun x => match x with | 156 => 20 | 165 => 31 | 166 => 32 | 169 => 33 | 240 => 56 | 241 => 57 | 276 => 79 | 277 => 80 | n => n
  t := fun x => match x with | 31 => 37 | 9 => 9 | 3 => 3 | 4 => 4 | 0 => 0 | 20 => 20 | 72 => 48 | 76 => 52 | 70 => 46 | 37 => 45 | 75 => 51 | 127 => 73 | 164 => 86 | 5 => 5 | 80 => 54 | n => n
  g := fun x => x
theorem lays156 : Lays.n156 Tryd.prog ren156 where
  mixed := mixed
  f156 := (show Tryd.prog.funcs[20]? = some _ from Tryd.func20).trans (congrArg some (by kernel_rfl))
  f165 := (show Tryd.prog.funcs[31]? = some _ from Tryd.func31).trans (congrArg some (by kernel_rfl))
  f166 := (show Tryd.prog.funcs[32]? = some _ from Tryd.func32).trans (congrArg some (by kernel_rfl))
  f169 := (show Tryd.prog.funcs[33]? = some _ from Tryd.func33).trans (congrArg some (by kernel_rfl))
  f240 := (show Tryd.prog.funcs[56]? = some _ from Tryd.func56).trans (congrArg some (by kernel_rfl))
  f241 := (show Tryd.prog.funcs[57]? = some _ from Tryd.func57).trans (congrArg some (by kernel_rfl))
  f276 := (show Tryd.prog.funcs[79]? = some _ from Tryd.func79).trans (congrArg some (by kernel_rfl))
  f277 := (show Tryd.prog.funcs[80]? = some _ from Tryd.func80).trans (congrArg some (by kernel_rfl))
  t0 := Tryd.underlying0
  a0 := Tryd.isAgg0
  z0 := Tryd.sizeOf0
  v0 := Tryd.zeroValue0
  t3 := Tryd.underlying3
  a3 := Tryd.isAgg3
  z3 := Tryd.sizeOf3
  v3 := Tryd.zeroValue3
  t4 := Tryd.underlying4
  a4 := Tryd.isAgg4
  z4 := Tryd.sizeOf4
  v4 := Tryd.zeroValue4
  t9 := Tryd.underlying9
  a9 := Tryd.isAgg9
  z9 := Tryd.sizeOf9
  v9 := Tryd.zeroValue9
  t20 := Tryd.underlying20
  a20 := Tryd.isAgg20
  z20 := Tryd.sizeOf20
  v20 := Tryd.zeroValue20
  t31 := Tryd.underlying37
  a31 := Tryd.isAgg37
  z31 := Tryd.sizeOf37
  v31 := Tryd.zeroValue37
  t37 := Tryd.underlying45
  a37 := Tryd.isAgg45
  z37 := Tryd.sizeOf45
  v37 := Tryd.zeroValue45
  t70 := Tryd.underlying46
  a70 := Tryd.isAgg46
  z70 := Tryd.sizeOf46
  v70 := Tryd.zeroValue46
  t72 := Tryd.underlying48
  a72 := Tryd.isAgg48
  z72 := Tryd.sizeOf48
  v72 := Tryd.zeroValue48
  t75 := Tryd.underlying51
  a75 := Tryd.isAgg51
  z75 := Tryd.sizeOf51
  v75 := Tryd.zeroValue51
  t76 := Tryd.underlying52
  a76 := Tryd.isAgg52
  z76 := Tryd.sizeOf52
  v76 := Tryd.zeroValue52
  t127 := Tryd.underlying73
  a127 := Tryd.isAgg73
  z127 := Tryd.sizeOf73
  v127 := Tryd.zeroValue73
  t164 := Tryd.underlying86
  a164 := Tryd.isAgg86
  z164 := Tryd.sizeOf86
  v164 := Tryd.zeroValue86
theorem extra156 : Builder.Extra Tryd.prog ren156 where
  sizeBuilder := by kernel_rfl
  liesBuilder := by kernel_rfl
  t5 := Tryd.underlying5
  a5 := Tryd.isAgg5
  z5 := Tryd.sizeOf5
  v5 := Tryd.zeroValue5
  infoByte := by kernel_rfl
  cellsByte := by kernel_rfl
  sizeByte := by kernel_rfl
  neB5 := by decide
theorem c_strings_Join (l : List ByteArray) (sep : ByteArray) (hN : l.length ≤ 140737488355328) (hlen : (joinB l sep).size ≤ 140737488355328) : AC Tryd.prog 20 [.sl false 1 (sL l), str sep] (.im (str (joinB l sep))) :=
  join_AC lays156 extra156 ⟨_, Tryd.func20, by kernel_rfl, by kernel_rfl⟩ l sep hN hlen
theorem c_impl_SetsText (l : List Int) (hN : l.length ≤ 500) : AC Tryd.prog 44 [ints l] (.im (str (setsTx l))) := by
  refine AC.go (rs := [.tmp 2]) T_ok mixed Tryd.func44 rfl rfl rfl (by kernel_rfl) fun hl => ?_
  simp (maxSteps := 5000000) -dsimp only [↓gp, gq, reduceCtorEq, Nat.reduceEqDiff, Nat.reduceLT, Nat.reduceLeDiff, Nat.reduceAdd, Nat.reduceMul, Nat.reduceSub, Nat.reduceBEq, Int.reduceToNat, Int.reduceLE, Int.reduceLT, Int.reduceNeg, Nat.reduceMod, sid_ne1, sid_ne2, sid_inj, sid_mod, gT, TK.isInt, TK.agg, Array.toList]
  refine ⟨by omega, by omega, ?_⟩
  have hz : sL ((l.take 0).map setTI) = [] := rfl
  refine loop_of (fun (za : Nat × Nat) s => match za with | (k, v) => s.sl 3 = .own 8 v ∧ s.rw 8 = ⟨v, .sli 9 1 false (sL ((l.take k).map setTI))⟩ ∧ s.sl 9 = ints l ∧ s.sl 10 = int l.length ∧ s.sl 11 = int k ∧ (k ≤ l.length)) (fun (k, v) => l.length - k) ((0, 1)) (by refine ⟨?_, ?_, ?_, ?_, ?_, by omega⟩ <;> (first | (simp (maxSteps := 5000000) -dsimp only [gr, Nat.reduceEqDiff, Nat.reduceLT, Nat.reduceAdd, Nat.reduceMod, Nat.reduceBEq, sid_mod, sid_ne1, sid_ne2, sid_inj, hz, List.replicate]; first | done | rfl | (simp; done)) | assumption | rfl)) ?_
  intro (k, v) sa ⟨h3a, r8a, h9a, h10a, h11a, hIa⟩
  simp (maxSteps := 5000000) -dsimp only [↓gp, gq, reduceCtorEq, Nat.reduceEqDiff, Nat.reduceLT, Nat.reduceLeDiff, Nat.reduceAdd, Nat.reduceMul, Nat.reduceSub, Nat.reduceBEq, Int.reduceToNat, Int.reduceLE, Int.reduceLT, Int.reduceNeg, Nat.reduceMod, sid_ne1, sid_ne2, sid_inj, sid_mod, gT, TK.isInt, TK.agg, Array.toList, h3a, r8a, h9a, h10a, h11a]
  refine ⟨fun h => ⟨h, h, askK_of (c_impl_SetText _) ?_⟩, fun h => ?_⟩
  · simp (maxSteps := 5000000) -dsimp only [↓gp, gq, reduceCtorEq, Nat.reduceEqDiff, Nat.reduceLT, Nat.reduceLeDiff, Nat.reduceAdd, Nat.reduceMul, Nat.reduceSub, Nat.reduceBEq, Int.reduceToNat, Int.reduceLE, Int.reduceLT, Int.reduceNeg, Nat.reduceMod, sid_ne1, sid_ne2, sid_inj, sid_mod, gT, TK.isInt, TK.agg, Array.toList, h3a, r8a, h9a, h10a, h11a]
    have e : (l.take (k + 1)).map setTI = (l.take k).map setTI ++ [setTI (l.getD k 0)] := by rw [take_snoc 0 h]; simp
    refine ⟨by rw [List.length_map, List.length_take]; omega, again_of ((k + 1, v + 1)) (by refine ⟨?_, ?_, ?_, ?_, ?_, by dsimp only; omega⟩ <;> (first | (simp (maxSteps := 5000000) -dsimp only [gr, Nat.reduceEqDiff, Nat.reduceLT, Nat.reduceAdd, Nat.reduceMod, Nat.reduceBEq, sid_mod, sid_ne1, sid_ne2, sid_inj, h3a, r8a, h9a, h10a, h11a, wrap_nat h (show l.length ≤ 9223372036854775807 by omega), e]; first | done | rfl | (simp; done)) | assumption | rfl)) (by first | omega | (simp only; omega) | (dsimp only; omega) | (show _ < _; simp; omega))⟩
  · have ht : l.take k = l := List.take_of_length_le (by omega)
    rw [ht]
    have hjs := joinP_size (l := l.map setTI) (sep := ⟨#[44]⟩) (fun i hi => by
      have hi : i < l.length := by simpa using hi
      have : (l.map setTI).getD i ⟨#[]⟩ = setTI l[i] := by simp [List.getD, hi]
      rw [this]; exact setTI_size _) (Nat.le_refl 1) (l.map setTI).length (Nat.le_refl _)
    rw [joinP_eq _ _ _ (Nat.le_refl _), List.take_length, List.length_map] at hjs
    refine askK_of (c_strings_Join (l.map setTI) ⟨#[44]⟩ (by rw [List.length_map]; omega) (by omega)) ?_
    simp (maxSteps := 5000000) -dsimp only [↓gp, gq, reduceCtorEq, Nat.reduceEqDiff, Nat.reduceLT, Nat.reduceLeDiff, Nat.reduceAdd, Nat.reduceMul, Nat.reduceSub, Nat.reduceBEq, Int.reduceToNat, Int.reduceLE, Int.reduceLT, Int.reduceNeg, Nat.reduceMod, sid_ne1, sid_ne2, sid_inj, sid_mod, gT, TK.isInt, TK.agg, Array.toList, h3a, r8a, h9a, h10a, h11a]
    rfl
end Go.Proofs.YtmpjajhklilleaaDoor

namespace Go.Proofs.YtmpjajhklilleaaDoor
open Go.Abs
set_option linter.unusedSimpArgs false
set_option linter.unusedVariables false

end Go.Proofs.YtmpjajhklilleaaDoor

namespace Go.Proofs.YtmpjajhklilleaaDoor
open Go.Abs
set_option linter.unusedSimpArgs false
set_option linter.unusedVariables false

theorem setsTx_size (l : List Int) : (setsTx l).size ≤ 7 * l.length := by
  have h := joinP_size (l := l.map setTI) (sep := ⟨#[44]⟩) (fun i hi => by
    have hi : i < l.length := by simpa using hi
    have e : (l.map setTI).getD i ⟨#[]⟩ = setTI l[i] := by simp [List.getD, hi]
    rw [e]; exact setTI_size _) (Nat.le_refl 1) (l.map setTI).length (Nat.le_refl _)
  rw [joinP_eq _ _ _ (Nat.le_refl _), List.take_length, List.length_map] at h
  exact h
theorem cx_len448 {n : Int} {xs : List Int} (h : isCx n xs = true) : xs.length ≤ 448 := by
  rw [cx_ext h, ofN_length]; exact extN_len _ _
noncomputable def cpxTx (n : Int) (xs : List Int) : ByteArray := if isCx n xs = true then itoaB n ++ ⟨#[58]⟩ ++ setsTx xs else ⟨#[]⟩
theorem cpxTx_size (n : Int) (xs : List Int) : (cpxTx n xs).size ≤ 4000 := by
  unfold cpxTx
  split
  · rename_i h
    obtain ⟨h1, h6, _⟩ := isCx_iff.1 h
    have a := itoaB_size (n := n) (by omega) (by omega)
    have b := setsTx_size xs
    have c := cx_len448 h
    rw [ByteArray.size_append, ByteArray.size_append]
    show _ + 1 + _ ≤ 4000
    omega
  · decide
theorem c_spec_ComplexText (n : Int) (xs : List Int) : AC Tryd.prog 23 [.ag [int n, ints xs]] (.im (str (cpxTx n xs))) := by
  refine AC.go (rs := [.tmp 2]) T_ok mixed Tryd.func23 rfl rfl rfl (by kernel_rfl) fun hl => ?_
  simp (maxSteps := 5000000) -dsimp only [↓gp, gq, reduceCtorEq, Nat.reduceEqDiff, Nat.reduceLT, Nat.reduceLeDiff, Nat.reduceAdd, Nat.reduceMul, Nat.reduceSub, Nat.reduceBEq, Int.reduceToNat, Int.reduceLE, Int.reduceLT, Int.reduceNeg, Nat.reduceMod, sid_ne1, sid_ne2, sid_inj, sid_mod, gT, TK.isInt, TK.agg, Array.toList]
  refine askK_of (c_spec_IsComplex n xs) ?_
  simp (maxSteps := 5000000) -dsimp only [↓gp, gq, reduceCtorEq, Nat.reduceEqDiff, Nat.reduceLT, Nat.reduceLeDiff, Nat.reduceAdd, Nat.reduceMul, Nat.reduceSub, Nat.reduceBEq, Int.reduceToNat, Int.reduceLE, Int.reduceLT, Int.reduceNeg, Nat.reduceMod, sid_ne1, sid_ne2, sid_inj, sid_mod, gT, TK.isInt, TK.agg, Array.toList]
  unfold cpxTx
  refine ⟨fun hc => ?_, fun hc => ?_⟩
  · have hc : isCx n xs = false := by simpa using hc
    rw [if_neg (by rw [hc]; decide)]
  · have hc : isCx n xs = true := by simpa using hc
    rw [if_pos hc]
    obtain ⟨h1, h6, _⟩ := isCx_iff.1 hc
    have a := itoaB_size (n := n) (by omega) (by omega)
    have b := setsTx_size xs
    have c := cx_len448 hc
    have s1 : (itoaB n ++ ⟨#[58]⟩).size ≤ 21 := by rw [ByteArray.size_append]; show _ + 1 ≤ 21; omega
    refine ⟨by kernel_rfl, askK_of (c_spec_FormatIntG (n := n) (by omega) (by omega)) ?_⟩
    simp (maxSteps := 5000000) -dsimp only [↓gp, gq, reduceCtorEq, Nat.reduceEqDiff, Nat.reduceLT, Nat.reduceLeDiff, Nat.reduceAdd, Nat.reduceMul, Nat.reduceSub, Nat.reduceBEq, Int.reduceToNat, Int.reduceLE, Int.reduceLT, Int.reduceNeg, Nat.reduceMod, sid_ne1, sid_ne2, sid_inj, sid_mod, gT, TK.isInt, TK.agg, Array.toList]
    refine ⟨by show _ + 1 ≤ _; omega, askK_of (c_spec_SetsText xs (by omega)) ?_⟩
    simp (maxSteps := 5000000) -dsimp only [↓gp, gq, reduceCtorEq, Nat.reduceEqDiff, Nat.reduceLT, Nat.reduceLeDiff, Nat.reduceAdd, Nat.reduceMul, Nat.reduceSub, Nat.reduceBEq, Int.reduceToNat, Int.reduceLE, Int.reduceLT, Int.reduceNeg, Nat.reduceMod, sid_ne1, sid_ne2, sid_inj, sid_mod, gT, TK.isInt, TK.agg, Array.toList]
    omega
theorem c_impl_ComplexText (n : Int) (xs : List Int) : AC Tryd.prog 27 [.ag [int n, ints xs]] (.im (str (cpxTx n xs))) := by
  refine AC.go (rs := [.tmp 2]) T_ok mixed Tryd.func27 rfl rfl rfl (by kernel_rfl) fun hl => ?_
  simp (maxSteps := 5000000) -dsimp only [↓gp, gq, reduceCtorEq, Nat.reduceEqDiff, Nat.reduceLT, Nat.reduceLeDiff, Nat.reduceAdd, Nat.reduceMul, Nat.reduceSub, Nat.reduceBEq, Int.reduceToNat, Int.reduceLE, Int.reduceLT, Int.reduceNeg, Nat.reduceMod, sid_ne1, sid_ne2, sid_inj, sid_mod, gT, TK.isInt, TK.agg, Array.toList]
  refine askK_of (c_impl_IsComplex n xs) ?_
  simp (maxSteps := 5000000) -dsimp only [↓gp, gq, reduceCtorEq, Nat.reduceEqDiff, Nat.reduceLT, Nat.reduceLeDiff, Nat.reduceAdd, Nat.reduceMul, Nat.reduceSub, Nat.reduceBEq, Int.reduceToNat, Int.reduceLE, Int.reduceLT, Int.reduceNeg, Nat.reduceMod, sid_ne1, sid_ne2, sid_inj, sid_mod, gT, TK.isInt, TK.agg, Array.toList]
  unfold cpxTx
  refine ⟨fun hc => ?_, fun hc => ?_⟩
  · have hc : isCx n xs = false := by simpa using hc
    rw [if_neg (by rw [hc]; decide)]
  · have hc : isCx n xs = true := by simpa using hc
    rw [if_pos hc]
    obtain ⟨h1, h6, _⟩ := isCx_iff.1 hc
    have a := itoaB_size (n := n) (by omega) (by omega)
    have b := setsTx_size xs
    have c := cx_len448 hc
    have s1 : (itoaB n ++ ⟨#[58]⟩).size ≤ 21 := by rw [ByteArray.size_append]; show _ + 1 ≤ 21; omega
    refine ⟨by kernel_rfl, askK_of (c_impl_FormatInt (n := n) (by omega) (by omega)) ?_⟩
    simp (maxSteps := 5000000) -dsimp only [↓gp, gq, reduceCtorEq, Nat.reduceEqDiff, Nat.reduceLT, Nat.reduceLeDiff, Nat.reduceAdd, Nat.reduceMul, Nat.reduceSub, Nat.reduceBEq, Int.reduceToNat, Int.reduceLE, Int.reduceLT, Int.reduceNeg, Nat.reduceMod, sid_ne1, sid_ne2, sid_inj, sid_mod, gT, TK.isInt, TK.agg, Array.toList]
    refine ⟨by show _ + 1 ≤ _; omega, askK_of (c_impl_SetsText xs (by omega)) ?_⟩
    simp (maxSteps := 5000000) -dsimp only [↓gp, gq, reduceCtorEq, Nat.reduceEqDiff, Nat.reduceLT, Nat.reduceLeDiff, Nat.reduceAdd, Nat.reduceMul, Nat.reduceSub, Nat.reduceBEq, Int.reduceToNat, Int.reduceLE, Int.reduceLT, Int.reduceNeg, Nat.reduceMod, sid_ne1, sid_ne2, sid_inj, sid_mod, gT, TK.isInt, TK.agg, Array.toList]
    omega
def lstTx (l : List Int) : ByteArray := if l.length = 0 then ⟨#[45]⟩ else setsTx l
theorem c_impl_listText (l : List Int) (hN : l.length ≤ 500) : AC Tryd.prog 26 [ints l] (.im (str (lstTx l))) := by
  refine AC.go (rs := [.tmp 2]) T_ok mixed Tryd.func26 rfl rfl rfl (by kernel_rfl) fun hl => ?_
  simp (maxSteps := 5000000) -dsimp only [↓gp, gq, reduceCtorEq, Nat.reduceEqDiff, Nat.reduceLT, Nat.reduceLeDiff, Nat.reduceAdd, Nat.reduceMul, Nat.reduceSub, Nat.reduceBEq, Int.reduceToNat, Int.reduceLE, Int.reduceLT, Int.reduceNeg, Nat.reduceMod, sid_ne1, sid_ne2, sid_inj, sid_mod, gT, TK.isInt, TK.agg, Array.toList]
  unfold lstTx
  refine ⟨fun h0 => ?_, fun h0 => askK_of (c_impl_SetsText l hN) ?_⟩
  · rw [if_pos (by have := beq_iff_eq.1 h0; omega)]
  · rw [if_neg (by intro e; rw [e] at h0; simp at h0)]
    simp (maxSteps := 5000000) -dsimp only [↓gp, gq, reduceCtorEq, Nat.reduceEqDiff, Nat.reduceLT, Nat.reduceLeDiff, Nat.reduceAdd, Nat.reduceMul, Nat.reduceSub, Nat.reduceBEq, Int.reduceToNat, Int.reduceLE, Int.reduceLT, Int.reduceNeg, Nat.reduceMod, sid_ne1, sid_ne2, sid_inj, sid_mod, gT, TK.isInt, TK.agg, Array.toList]
theorem colG_len : ∀ (m : Nat) (f : Nat → Bool) (l : List Nat), (colG m f l).2.length ≤ l.length + m := by
  intro m
  induction m with
  | zero => intro f l; exact Nat.le_refl _
  | succ m ih =>
    intro f l
    rw [colG]
    split
    · exact Nat.le_add_right _ _
    · have := ih (rmF f (lastL (freeL f))) (l ++ [lastL (freeL f)])
      rw [List.length_append, List.length_singleton] at this
      omega
theorem colF_len (xs : List Int) : (colF xs).2.length ≤ 64 := by
  have := colG_len 64 (faceB xs) []
  simpa [colF] using this
theorem adopt_tafv2 (s : St) (d e sz e2 sz2 : Nat) (x y : Value) (c c2 : List PV) : adoptSt s d (.tup [.ag [.im (.v x), .fr e sz c], .fr e2 sz2 c2, .im (.v y)]) =
    ((s.row (d + 1000) ⟨(s.rw (d + 1000)).ver + 1, .sli e2 sz2 false c2⟩).row d ⟨(s.rw d).ver + 1, .sli e sz false c⟩).put (some d) (.tup [.ag [.v x, .own d ((s.rw d).ver + 1)], .own (d + 1000) ((s.rw (d + 1000)).ver + 1), .v y]) := by
  unfold adoptSt
  simp [leaves_ag, leaves_tup, leaves, addRows, adopt2, adopt1, adoptL, adopt0, leafId, St.row, setIf]
  rfl
noncomputable def colTx (n : Int) (xs : List Int) : ByteArray := if isCx n xs = true then lstTx (ofN (colF xs).2) ++ ⟨#[32]⟩ ++ cpxTx n (ofN (extN (colF xs).1 true)) else ⟨#[]⟩
theorem c_spec_CollapseText (n : Int) (xs : List Int) : AC Tryd.prog 11 [.ag [int n, ints xs]] (.im (str (colTx n xs))) := by
  refine AC.go (rs := [.tmp 2]) T_ok mixed Tryd.func11 rfl rfl rfl (by kernel_rfl) fun hl => ?_
  simp (maxSteps := 5000000) -dsimp only [↓gp, gq, reduceCtorEq, Nat.reduceEqDiff, Nat.reduceLT, Nat.reduceLeDiff, Nat.reduceAdd, Nat.reduceMul, Nat.reduceSub, Nat.reduceBEq, Int.reduceToNat, Int.reduceLE, Int.reduceLT, Int.reduceNeg, Nat.reduceMod, sid_ne1, sid_ne2, sid_inj, sid_mod, gT, TK.isInt, TK.agg, Array.toList]
  refine askK_of (c_spec_CollapseAll n xs) ?_
  unfold colTx
  by_cases hc : isCx n xs = true
  · rw [hc]
    simp only [if_true]
    have hl1 := colF_len xs
    have hol := ofN_length (colF xs).2
    have hsz := cpxTx_size n (ofN (extN (colF xs).1 true))
    generalize (ofN (extN (colF xs).1 true)) = zs at *
    generalize ofN (colF xs).2 = st at *
    have hst := setsTx_size st
    unfold lstTx
    simp (maxSteps := 5000000) -dsimp only [↓gp, gq, reduceCtorEq, Nat.reduceEqDiff, Nat.reduceLT, Nat.reduceLeDiff, Nat.reduceAdd, Nat.reduceMul, Nat.reduceSub, Nat.reduceBEq, Int.reduceToNat, Int.reduceLE, Int.reduceLT, Int.reduceNeg, Nat.reduceMod, sid_ne1, sid_ne2, sid_inj, sid_mod, gT, TK.isInt, TK.agg, Array.toList, adopt_tafv2]
    refine ⟨fun h0 => askK_of (c_spec_ComplexText n zs) ?_, fun h0 => ⟨by kernel_rfl, askK_of (c_spec_SetsText st (by omega)) ?_⟩⟩
    · rw [if_pos (by have := beq_iff_eq.1 h0; omega)]
      simp (maxSteps := 5000000) -dsimp only [↓gp, gq, reduceCtorEq, Nat.reduceEqDiff, Nat.reduceLT, Nat.reduceLeDiff, Nat.reduceAdd, Nat.reduceMul, Nat.reduceSub, Nat.reduceBEq, Int.reduceToNat, Int.reduceLE, Int.reduceLT, Int.reduceNeg, Nat.reduceMod, sid_ne1, sid_ne2, sid_inj, sid_mod, gT, TK.isInt, TK.agg, Array.toList, adopt_tafv2]
      refine ⟨by show 2 + _ ≤ _; omega, ?_⟩
      refine ByteArray.ext ?_
      simp
    · rw [if_neg (by intro e; rw [e] at h0; simp at h0)]
      simp (maxSteps := 5000000) -dsimp only [↓gp, gq, reduceCtorEq, Nat.reduceEqDiff, Nat.reduceLT, Nat.reduceLeDiff, Nat.reduceAdd, Nat.reduceMul, Nat.reduceSub, Nat.reduceBEq, Int.reduceToNat, Int.reduceLE, Int.reduceLT, Int.reduceNeg, Nat.reduceMod, sid_ne1, sid_ne2, sid_inj, sid_mod, gT, TK.isInt, TK.agg, Array.toList, adopt_tafv2]
      have s1 : (setsTx st ++ ⟨#[32]⟩).size ≤ 449 := by rw [ByteArray.size_append]; show _ + 1 ≤ 449; omega
      refine ⟨by show _ + 1 ≤ _; omega, askK_of (c_spec_ComplexText n zs) ?_⟩
      simp (maxSteps := 5000000) -dsimp only [↓gp, gq, reduceCtorEq, Nat.reduceEqDiff, Nat.reduceLT, Nat.reduceLeDiff, Nat.reduceAdd, Nat.reduceMul, Nat.reduceSub, Nat.reduceBEq, Int.reduceToNat, Int.reduceLE, Int.reduceLT, Int.reduceNeg, Nat.reduceMod, sid_ne1, sid_ne2, sid_inj, sid_mod, gT, TK.isInt, TK.agg, Array.toList, adopt_tafv2]
      omega
  · have hc : isCx n xs = false := by simpa using hc
    rw [hc]
    simp only [Bool.false_eq_true, if_false]
    simp (maxSteps := 5000000) -dsimp only [↓gp, gq, reduceCtorEq, Nat.reduceEqDiff, Nat.reduceLT, Nat.reduceLeDiff, Nat.reduceAdd, Nat.reduceMul, Nat.reduceSub, Nat.reduceBEq, Int.reduceToNat, Int.reduceLE, Int.reduceLT, Int.reduceNeg, Nat.reduceMod, sid_ne1, sid_ne2, sid_inj, sid_mod, gT, TK.isInt, TK.agg, Array.toList, adopt_tafv2]
theorem c_impl_CollapseText (n : Int) (xs : List Int) : AC Tryd.prog 13 [.ag [int n, ints xs]] (.im (str (colTx n xs))) := by
  refine AC.go (rs := [.tmp 2]) T_ok mixed Tryd.func13 rfl rfl rfl (by kernel_rfl) fun hl => ?_
  simp (maxSteps := 5000000) -dsimp only [↓gp, gq, reduceCtorEq, Nat.reduceEqDiff, Nat.reduceLT, Nat.reduceLeDiff, Nat.reduceAdd, Nat.reduceMul, Nat.reduceSub, Nat.reduceBEq, Int.reduceToNat, Int.reduceLE, Int.reduceLT, Int.reduceNeg, Nat.reduceMod, sid_ne1, sid_ne2, sid_inj, sid_mod, gT, TK.isInt, TK.agg, Array.toList]
  refine askK_of (c_impl_CollapseAll n xs) ?_
  unfold colTx
  by_cases hc : isCx n xs = true
  · rw [hc]
    simp only [if_true]
    have hl1 := colF_len xs
    have hol := ofN_length (colF xs).2
    have hsz := cpxTx_size n (ofN (extN (colF xs).1 true))
    generalize (ofN (extN (colF xs).1 true)) = zs at *
    generalize ofN (colF xs).2 = st at *
    have hst : (lstTx st).size ≤ 448 := by
      unfold lstTx
      split
      · decide
      · have := setsTx_size st; omega
    simp (maxSteps := 5000000) -dsimp only [↓gp, gq, reduceCtorEq, Nat.reduceEqDiff, Nat.reduceLT, Nat.reduceLeDiff, Nat.reduceAdd, Nat.reduceMul, Nat.reduceSub, Nat.reduceBEq, Int.reduceToNat, Int.reduceLE, Int.reduceLT, Int.reduceNeg, Nat.reduceMod, sid_ne1, sid_ne2, sid_inj, sid_mod, gT, TK.isInt, TK.agg, Array.toList, adopt_tafv2]
    refine ⟨by kernel_rfl, askK_of (c_impl_listText st (by omega)) ?_⟩
    simp (maxSteps := 5000000) -dsimp only [↓gp, gq, reduceCtorEq, Nat.reduceEqDiff, Nat.reduceLT, Nat.reduceLeDiff, Nat.reduceAdd, Nat.reduceMul, Nat.reduceSub, Nat.reduceBEq, Int.reduceToNat, Int.reduceLE, Int.reduceLT, Int.reduceNeg, Nat.reduceMod, sid_ne1, sid_ne2, sid_inj, sid_mod, gT, TK.isInt, TK.agg, Array.toList, adopt_tafv2]
    have s1 : (lstTx st ++ ⟨#[32]⟩).size ≤ 449 := by rw [ByteArray.size_append]; show _ + 1 ≤ 449; omega
    refine ⟨by show _ + 1 ≤ _; omega, askK_of (c_impl_ComplexText n zs) ?_⟩
    simp (maxSteps := 5000000) -dsimp only [↓gp, gq, reduceCtorEq, Nat.reduceEqDiff, Nat.reduceLT, Nat.reduceLeDiff, Nat.reduceAdd, Nat.reduceMul, Nat.reduceSub, Nat.reduceBEq, Int.reduceToNat, Int.reduceLE, Int.reduceLT, Int.reduceNeg, Nat.reduceMod, sid_ne1, sid_ne2, sid_inj, sid_mod, gT, TK.isInt, TK.agg, Array.toList, adopt_tafv2]
    omega
  · have hc : isCx n xs = false := by simpa using hc
    rw [hc]
    simp only [Bool.false_eq_true, if_false]
    simp (maxSteps := 5000000) -dsimp only [↓gp, gq, reduceCtorEq, Nat.reduceEqDiff, Nat.reduceLT, Nat.reduceLeDiff, Nat.reduceAdd, Nat.reduceMul, Nat.reduceSub, Nat.reduceBEq, Int.reduceToNat, Int.reduceLE, Int.reduceLT, Int.reduceNeg, Nat.reduceMod, sid_ne1, sid_ne2, sid_inj, sid_mod, gT, TK.isInt, TK.agg, Array.toList, adopt_tafv2]
end Go.Proofs.YtmpjajhklilleaaDoor
