/- DERIVED by an AI agent. -/
import Derived.Test.YtpnknaaehcljoaaGreatA14
/- DERIVED by an AI agent. Tables of numbers: one number written, two rows swapped. No program in sight. -/
namespace Go.Abs
set_option linter.unusedSimpArgs false
set_option linter.unusedVariables false
abbrev Mat := List (List Int)
structure TabI (rw : Nat → Row) (k v e e2 : Nat) (q : List Nat) (M : Mat) : Prop where
  is : TabIs rw k v e e2 q (M.map iL)
  nd : q.Nodup
theorem mapI_getD (M : Mat) (i : Nat) : (M.map iL).getD i [] = iL (M.getD i []) := by
  by_cases h : i < M.length
  · simp [List.getD, h]
  · simp [List.getD, h, iL]
section
variable {rw rw' : Nat → Row} {k v e e2 : Nat} {q : List Nat} {M : Mat}
theorem TabI.len (h : TabI rw k v e e2 q M) : q.length = M.length := by rw [h.is.len]; simp
theorem TabI.top (h : TabI rw k v e e2 q M) : rw k = ⟨v, .tab e (cellsT k q)⟩ := h.is.top
theorem TabI.row [Held] (h : TabI rw k v e e2 q M) {i : Nat} (hi : i < M.length) : rw (sid k (q.getD i 0)) = ⟨1, .sli e2 1 false (iL (M.getD i []))⟩ := by
  rw [h.is.row i (by rw [h.len]; exact hi), mapI_getD]
theorem TabI.ne [Held] (h : TabI rw k v e e2 q M) {i j : Nat} (hi : i < M.length) (hj : j < M.length) (hij : i ≠ j) : ¬ sid k (q.getD i 0) = sid k (q.getD j 0) := fun e => by
  have hi' : i < q.length := by rw [h.len]; exact hi
  have hj' : j < q.length := by rw [h.len]; exact hj
  have h1 : q.getD i 0 = q[i] := by simp [List.getD, hi']
  have h2 : q.getD j 0 = q[j] := by simp [List.getD, hj']
  have := sid_inj' e
  rw [h1, h2] at this
  exact hij ((List.getElem_inj (h₀ := hi') (h₁ := hj') h.nd).1 this)
theorem TabI.same [Held] (h : TabI rw k v e e2 q M) (h1 : rw' k = rw k) (h2 : ∀ x, rw' (sid k x) = rw (sid k x)) : TabI rw' k v e e2 q M :=
  ⟨⟨h1.trans h.top, h.is.len, fun i hi => (h2 _).trans (h.is.row i hi)⟩, h.nd⟩
theorem TabI.to (h : TabI rw k v e e2 q M) {M' : Mat} (he : M = M') : TabI rw k v e e2 q M' := he ▸ h
theorem TabI.set [Held] (h : TabI rw k v e e2 q M) {i : Nat} (hi : i < M.length) {r : List Int} (h1 : rw' k = rw k) (h2 : rw' (sid k (q.getD i 0)) = ⟨1, .sli e2 1 false (iL r)⟩)
    (h3 : ∀ x, ¬ sid k x = sid k (q.getD i 0) → rw' (sid k x) = rw (sid k x)) : TabI rw' k v e e2 q (M.set i r) := by
  refine ⟨⟨h1.trans h.top, by rw [h.len]; simp, fun j hj => ?_⟩, h.nd⟩
  have hj' : j < M.length := by rw [← h.len]; exact hj
  rw [mapI_getD]
  by_cases e : j = i
  · subst e
    have : (M.set j r).getD j [] = r := by simp [List.getD, hi]
    rw [h2, this]
  · have : (M.set i r).getD j [] = M.getD j [] := by simp [List.getD, List.getElem?_set_ne (Ne.symm e)]
    rw [h3 _ (h.ne hj' hi e), h.row hj', this]
theorem TabI.swap [Held] (h : TabI rw k v e e2 q M) {a b : Nat} (ha : a < M.length) (hb : b < M.length) (h1 : rw' k = ⟨v, .tab e (cellsT k ((q.set a (q.getD b 0)).set b (q.getD a 0)))⟩) (h2 : ∀ x, rw' (sid k x) = rw (sid k x)) :
    TabI rw' k v e e2 ((q.set a (q.getD b 0)).set b (q.getD a 0)) ((M.set a (M.getD b [])).set b (M.getD a [])) ∧ ((q.set a (q.getD b 0)).set b (q.getD a 0)).Perm q := by
  have ha' : a < q.length := by rw [h.len]; exact ha
  have hb' : b < q.length := by rw [h.len]; exact hb
  have e1 : q.getD a 0 = q[a] := by simp [List.getD, ha']
  have e2' : q.getD b 0 = q[b] := by simp [List.getD, hb']
  have hp : ((q.set a (q.getD b 0)).set b (q.getD a 0)).Perm q := by rw [e1, e2']; exact List.set_set_perm ha' hb'
  refine ⟨⟨⟨h1, by simp [h.len], fun j hj => ?_⟩, hp.nodup_iff.2 h.nd⟩, hp⟩
  have hj' : j < M.length := by simpa [h.len] using hj
  have hjq : j < q.length := by rw [h.len]; exact hj'
  rw [mapI_getD, h2]
  by_cases eb : j = b
  · subst eb
    have q1 : ((q.set a (q.getD j 0)).set j (q.getD a 0)).getD j 0 = q.getD a 0 := by simp [List.getD, hjq]
    have q2 : ((M.set a (M.getD j [])).set j (M.getD a [])).getD j [] = M.getD a [] := by simp [List.getD, hj']
    rw [q1, q2]; exact h.row ha
  · by_cases ea : j = a
    · subst ea
      have q1 : ((q.set j (q.getD b 0)).set b (q.getD j 0)).getD j 0 = q.getD b 0 := by
        simp only [List.getD]
        rw [List.getElem?_set_ne (Ne.symm eb), List.getElem?_set_self hjq]; rfl
      have q2 : ((M.set j (M.getD b [])).set b (M.getD j [])).getD j [] = M.getD b [] := by
        simp only [List.getD]
        rw [List.getElem?_set_ne (Ne.symm eb), List.getElem?_set_self hj']; rfl
      rw [q1, q2]; exact h.row hb
    · have q1 : ((q.set a (q.getD b 0)).set b (q.getD a 0)).getD j 0 = q.getD j 0 := by
        simp only [List.getD]
        rw [List.getElem?_set_ne (Ne.symm eb), List.getElem?_set_ne (Ne.symm ea)]
      have q2 : ((M.set a (M.getD b [])).set b (M.getD a [])).getD j [] = M.getD j [] := by
        simp only [List.getD]
        rw [List.getElem?_set_ne (Ne.symm eb), List.getElem?_set_ne (Ne.symm ea)]
      rw [q1, q2]; exact h.row hj'
end
structure TabP (rw : Nat → Row) (k v e e2 n i : Nat) (M : Mat) : Prop where
  top : rw k = ⟨v, .tab e (tabC k n i)⟩
  len : M.length = i
  row : ∀ j, j < i → rw (sid k j) = ⟨1, .sli e2 1 false (iL (M.getD j []))⟩
  rest : ∀ j, i ≤ j → rw (sid k j) = ⟨0, .dead⟩
section
variable {s : St} {rw rw' : Nat → Row} {k v e e2 n i d vd : Nat} {M : Mat} {r : List Int}
theorem TabP.init [Held] (e2 : Nat) (hk : s.rw k = ⟨v, .sli e 1 false (List.replicate n (.v (.slice none 0 0)))⟩) (hd : ∀ j, s.rw (sid k j) = ⟨0, .dead⟩) :
    ∃ s', Wk s s' ∧ TabP s'.rw k v e e2 n 0 [] ∧ s'.sl = s.sl ∧ ∀ j, (j % 1000 == k % 1000) = false → s'.rw j = s.rw j := by
  refine ⟨_, Wk.tab hk (plain_nils n), ⟨?_, rfl, fun j hj => absurd hj (by omega), fun j _ => ?_⟩, rfl, fun j hj => ?_⟩
  · rw [row_rw_same, tabC_zero]
  · rw [row_rw_ne _ _ _ _ (sid_ne k j)]; exact hd j
  · have hj := beq_eq_false_iff_ne.1 hj
    rw [row_rw_ne _ _ _ _ (fun e => hj (by rw [e]))]
theorem snoc_getD {M : Mat} {r : List Int} {j : Nat} : (M ++ [r]).getD j [] = if j < M.length then M.getD j [] else if j = M.length then r else [] := by
  by_cases h1 : j < M.length
  · rw [if_pos h1]; simp [List.getD, List.getElem?_append_left h1]
  · rw [if_neg h1]
    by_cases h2 : j = M.length
    · rw [if_pos h2]; subst h2; simp [List.getD]
    · rw [if_neg h2]; simp [List.getD, List.getElem?_append_right (by omega : M.length ≤ j)]; rw [List.getElem?_eq_none (by simp; omega)]; rfl
theorem TabP.push [Held] (hk : s.rw k = ⟨v, .tab e (spl (tabC k n i) i [.own d vd])⟩) (hl : M.length = i) (hrow : ∀ j, j < i → s.rw (sid k j) = ⟨1, .sli e2 1 false (iL (M.getD j []))⟩) (hrest : ∀ j, i ≤ j → s.rw (sid k j) = ⟨0, .dead⟩)
    (hd : s.rw d = ⟨vd, .sli e2 1 false (iL r)⟩) (hdl : d < lent) (hdk : (d % 1000 == k % 1000) = false) (hi : i < n) :
    ∃ s', Wk s s' ∧ TabP s'.rw k v e e2 n (i + 1) (M ++ [r]) ∧ s'.sl = s.sl ∧ ∀ j, (j % 1000 == k % 1000) = false → (j == d) = false → s'.rw j = s.rw j := by
  have hdk' := beq_eq_false_iff_ne.1 hdk
  have ndk : d ≠ k := fun e => hdk' (by rw [e])
  have nds : ∀ j, d ≠ sid k j := fun j e => hdk' (by rw [e, sid_mod])
  refine ⟨_, Wk.ren (k' := sid k i) (cs' := tabC k n (i + 1)) hd hk (hrest i (Nat.le_refl i)) hdl (tabC_ren hi), ⟨?_, by simp [hl], fun j hj => ?_, fun j hj => ?_⟩, rfl, fun j hj hj2 => ?_⟩
  · rw [row_rw_same]
  · rw [row_rw_ne _ _ _ _ (sid_ne k j), snoc_getD, hl]
    by_cases e1 : j = i
    · subst e1
      rw [row_rw_same, if_neg (by omega), if_pos rfl]
    · rw [row_rw_ne _ _ _ _ (fun h => e1 (sid_inj' h)), row_rw_ne _ _ _ _ (Ne.symm (nds j)), if_pos (by omega)]
      exact hrow j (by omega)
  · rw [row_rw_ne _ _ _ _ (sid_ne k j), row_rw_ne _ _ _ _ (fun h => by have := sid_inj' h; omega), row_rw_ne _ _ _ _ (Ne.symm (nds j))]
    exact hrest j (by omega)
  · have hj := beq_eq_false_iff_ne.1 hj
    have hj2 := beq_eq_false_iff_ne.1 hj2
    rw [row_rw_ne _ _ _ _ (fun e => hj (by rw [e])), row_rw_ne _ _ _ _ (fun e => hj (by rw [e, sid_mod])), row_rw_ne _ _ _ _ hj2]
theorem TabP.set (h : TabP rw k v e e2 n i M) {j : Nat} (hj : j < i) (h1 : rw' k = rw k) (h2 : rw' (sid k j) = ⟨1, .sli e2 1 false (iL r)⟩) (h3 : ∀ x, ¬ x = j → rw' (sid k x) = rw (sid k x)) : TabP rw' k v e e2 n i (M.set j r) := by
  refine ⟨h1.trans h.top, by simp [h.len], fun x hx => ?_, fun x hx => (h3 x (by omega)).trans (h.rest x hx)⟩
  by_cases e : x = j
  · subst e
    have : (M.set x r).getD x [] = r := by simp [List.getD, h.len, hj]
    rw [h2, this]
  · have : (M.set j r).getD x [] = M.getD x [] := by simp [List.getD, List.getElem?_set_ne (Ne.symm e)]
    rw [h3 x e, h.row x hx, this]
theorem TabP.same (h : TabP rw k v e e2 n i M) (h1 : rw' k = rw k) (h2 : ∀ x, rw' (sid k x) = rw (sid k x)) : TabP rw' k v e e2 n i M :=
  ⟨h1.trans h.top, h.len, fun j hj => (h2 j).trans (h.row j hj), fun j hj => (h2 j).trans (h.rest j hj)⟩
theorem TabP.done [Held] (h : TabP rw k v e e2 n n M) : TabI rw k v e e2 (List.range n) M := by
  refine ⟨⟨by rw [h.top, tabC_end], by simp [h.len], fun j hj => ?_⟩, List.nodup_range⟩
  have hj : j < n := by simpa using hj
  have e1 : (List.range n).getD j 0 = j := by simp [List.getD, hj]
  rw [e1, mapI_getD]; exact h.row j hj
end
section
variable {Q : AX → St → Prop} {s : St} {k v e e2 n i d vd : Nat} {M : Mat} {r : List Int}
end
section
variable {s : St}
theorem Wk.untab [Held] {k v e : Nat} {c : List PV} (hk : s.rw k = ⟨v, .tab e c⟩) (hc : plain c) : Wk s (s.row k ⟨v, .sli e 1 false c⟩) := by
  intro G a w ⟨E, hs⟩
  have hR : E.R k = ⟨v, .tab e c⟩ := by rw [hs.rw]; exact hk
  have ht : OneTurn E w w k ⟨v, .sli e 1 false c⟩ (E.rm k) (E.rv k) :=
    ⟨fun _ _ _ => rfl, fun b hb _ => .inr ⟨hb, by rw [hR]; rfl, fun _ => by rw [hR]; rfl⟩, by rw [hR]; exact Nat.le_refl _,
      fun _ _ => ⟨by rw [hR]; rfl, rfl⟩, fun _ _ => ⟨by rw [hR]; rfl, rfl⟩, fun _ => by have := hs.wok.pos k (by rw [hR]; rfl); rw [hR] at this; exact this, Nat.le_refl _, rfl, rfl, ⟨rfl, fun _ => by first | exact Nat.le_refl _ | exact Nat.le_succ _⟩⟩
  have hturn := ht.turn (fz := []) hs.wok
  have hrows := ht.rows (fz := []) hs.wok (fun j hj => by cases hj) (fun hl => by
    have hrow := hs.wok.rows k
    unfold RowOk at hrow ⊢
    rw [hR] at hrow
    simp only [Env.turn, updF_same]
    rcases hrow with h | ⟨b, n, cap, vs, rest, h1, h2, h3, h4, h5, h6, h7, h8, h9⟩
    · exact .inl h
    · exact .inr ⟨b, n, cap, vs, rest, h1, h2, h3, h4, by omega, h6, h7, by omega, plain_rep hc h9⟩)
  have := hturn.sim hs hrows
  refine ⟨E.turn [] k ⟨v, .sli e 1 false c⟩ (E.rm k) (E.rv k), ?_⟩
  have e : ({ s with rw := (E.turn [] k ⟨v, .sli e 1 false c⟩ (E.rm k) (E.rv k)).R } : St) = s.row k ⟨v, .sli e 1 false c⟩ := by
    have hf : frzF E.R [] = E.R := frzF_nil E.R
    simp only [Env.turn, hf, hs.rw]
    rfl
  rw [e] at this
  exact this
structure TabG (rw : Nat → Row) (k v e e2 n : Nat) (M : Mat) : Prop where
  top : rw k = ⟨v, .tab e (cellsT k (List.range n))⟩
  len : M.length = n
  row : ∀ j, j < n → rw (sid k j) = ⟨1, .sli e2 1 false (iL (M.getD j []))⟩
  rest : ∀ j, n ≤ j → rw (sid k j) = ⟨0, .dead⟩
variable {rw rw' : Nat → Row} {k v e e2 n d vd : Nat} {M : Mat} {r : List Int}
theorem TabG.same (h : TabG rw k v e e2 n M) (h1 : rw' k = rw k) (h2 : ∀ x, rw' (sid k x) = rw (sid k x)) : TabG rw' k v e e2 n M :=
  ⟨h1.trans h.top, h.len, fun j hj => (h2 j).trans (h.row j hj), fun j hj => (h2 j).trans (h.rest j hj)⟩
theorem TabG.done [Held] (h : TabG rw k v e e2 n M) : TabI rw k v e e2 (List.range n) M := by
  refine ⟨⟨h.top, by simp [h.len], fun j hj => ?_⟩, List.nodup_range⟩
  have hj : j < n := by simpa using hj
  have e1 : (List.range n).getD j 0 = j := by simp [List.getD, hj]
  rw [e1, mapI_getD]; exact h.row j hj
theorem TabG.init [Held] (e2 : Nat) (hk : s.rw k = ⟨v, .sli e 1 false []⟩) (hd : ∀ j, s.rw (sid k j) = ⟨0, .dead⟩) :
    ∃ s', Wk s s' ∧ TabG s'.rw k v e e2 0 [] ∧ s'.sl = s.sl ∧ ∀ j, (j % 1000 == k % 1000) = false → s'.rw j = s.rw j := by
  refine ⟨_, Wk.tab hk (fun p hp => by cases hp), ⟨?_, rfl, fun j hj => absurd hj (by omega), fun j _ => ?_⟩, rfl, fun j hj => ?_⟩
  · rw [row_rw_same]; rfl
  · rw [row_rw_ne _ _ _ _ (sid_ne k j)]; exact hd j
  · have hj := beq_eq_false_iff_ne.1 hj
    rw [row_rw_ne _ _ _ _ (fun e => hj (by rw [e]))]
theorem TabG.push [Held] (hk : s.rw k = ⟨v, .tab e (cellsT k (List.range n) ++ [.own d vd])⟩) (hl : M.length = n) (hrow : ∀ j, j < n → s.rw (sid k j) = ⟨1, .sli e2 1 false (iL (M.getD j []))⟩) (hrest : ∀ j, n ≤ j → s.rw (sid k j) = ⟨0, .dead⟩)
    (hd : s.rw d = ⟨vd, .tab e2 (iL r)⟩) (hdl : d < lent) (hdk : (d % 1000 == k % 1000) = false) :
    ∃ s', Wk s s' ∧ TabG s'.rw k v e e2 (n + 1) (M ++ [r]) ∧ s'.sl = s.sl ∧ ∀ j, (j % 1000 == k % 1000) = false → (j == d) = false → s'.rw j = s.rw j := by
  have hdk' := beq_eq_false_iff_ne.1 hdk
  have ndk : d ≠ k := fun e => hdk' (by rw [e])
  have nds : ∀ j, d ≠ sid k j := fun j e => hdk' (by rw [e, sid_mod])
  have w1 : Wk s (s.row d ⟨vd, .sli e2 1 false (iL r)⟩) := Wk.untab hd (plain_iL r)
  have hcs : (cellsT k (List.range (n + 1))).length = (cellsT k (List.range n) ++ [PV.own d vd]).length ∧ ∀ i (a : i < (cellsT k (List.range n) ++ [PV.own d vd]).length) (b : i < (cellsT k (List.range (n + 1))).length),
      (cellsT k (List.range (n + 1)))[i] = (cellsT k (List.range n) ++ [PV.own d vd])[i] ∨ ((cellsT k (List.range n) ++ [PV.own d vd])[i] = .own d vd ∧ (cellsT k (List.range (n + 1)))[i] = .own (sid k n) 1) := by
    refine ⟨by simp [cellsT_length], fun i a b => ?_⟩
    have hi : i < n + 1 := by simpa [cellsT_length] using b
    by_cases h : i < n
    · refine .inl ?_
      rw [List.getElem_append_left (by simpa [cellsT_length] using h)]
      simp [cellsT]
    · have : i = n := by omega
      subst this
      refine .inr ⟨?_, ?_⟩
      · rw [List.getElem_append_right (by simp [cellsT_length])]; simp [cellsT_length]
      · simp [cellsT]
  have w2 := Wk.ren (s := s.row d ⟨vd, .sli e2 1 false (iL r)⟩) (d := d) (k := k) (k' := sid k n) (v := vd) (vk := v) (e := e2) (et := e) (sz := 1) (c := iL r) (cs := cellsT k (List.range n) ++ [.own d vd]) (cs' := cellsT k (List.range (n + 1)))
    (row_rw_same _ _ _) (by rw [row_rw_ne _ _ _ _ (Ne.symm ndk)]; exact hk) (by rw [row_rw_ne _ _ _ _ (Ne.symm (nds n))]; exact hrest n (Nat.le_refl n)) hdl hcs
  refine ⟨_, w1.trans w2, ⟨?_, by simp [hl], fun j hj => ?_, fun j hj => ?_⟩, rfl, fun j hj hj2 => ?_⟩
  · rw [row_rw_same]
  · rw [row_rw_ne _ _ _ _ (sid_ne k j), snoc_getD, hl]
    by_cases e1 : j = n
    · subst e1
      rw [row_rw_same, if_neg (by omega), if_pos rfl]
    · rw [row_rw_ne _ _ _ _ (fun h => e1 (sid_inj' h)), row_rw_ne _ _ _ _ (Ne.symm (nds j)), row_rw_ne _ _ _ _ (Ne.symm (nds j)), if_pos (by omega)]
      exact hrow j (by omega)
  · rw [row_rw_ne _ _ _ _ (sid_ne k j), row_rw_ne _ _ _ _ (fun h => by have := sid_inj' h; omega), row_rw_ne _ _ _ _ (Ne.symm (nds j)), row_rw_ne _ _ _ _ (Ne.symm (nds j))]
    exact hrest j (by omega)
  · have hj := beq_eq_false_iff_ne.1 hj
    have hj2 := beq_eq_false_iff_ne.1 hj2
    rw [row_rw_ne _ _ _ _ (fun e => hj (by rw [e])), row_rw_ne _ _ _ _ (fun e => hj (by rw [e, sid_mod])), row_rw_ne _ _ _ _ hj2, row_rw_ne _ _ _ _ hj2]
variable {Q : AX → St → Prop}
end
section
variable {s : St} {rw rw' : Nat → Row} {k v e e2 n d vd : Nat} {M : Mat} {r : List Int}
theorem TabG.push0 [Held] (hk : s.rw k = ⟨v, .tab e (cellsT k (List.range n) ++ [.own d vd])⟩) (hl : M.length = n) (hrow : ∀ j, j < n → s.rw (sid k j) = ⟨1, .sli e2 1 false (iL (M.getD j []))⟩) (hrest : ∀ j, n ≤ j → s.rw (sid k j) = ⟨0, .dead⟩)
    (hd : s.rw d = ⟨vd, .sli e2 1 false (iL r)⟩) (hdl : d < lent) (hdk : (d % 1000 == k % 1000) = false) :
    ∃ s', Wk s s' ∧ TabG s'.rw k v e e2 (n + 1) (M ++ [r]) ∧ s'.sl = s.sl ∧ ∀ j, (j % 1000 == k % 1000) = false → (j == d) = false → s'.rw j = s.rw j := by
  have hdk' := beq_eq_false_iff_ne.1 hdk
  have ndk : d ≠ k := fun e => hdk' (by rw [e])
  have nds : ∀ j, d ≠ sid k j := fun j e => hdk' (by rw [e, sid_mod])
  have w1 : Wk s (s.row d ⟨vd, .tab e2 (iL r)⟩) := Wk.tab hd (plain_iL r)
  obtain ⟨s', h1, h2, h3, h4⟩ := TabG.push (s := s.row d ⟨vd, .tab e2 (iL r)⟩) (k := k) (v := v) (e := e) (e2 := e2) (n := n) (d := d) (vd := vd) (M := M) (r := r) (by rw [row_rw_ne _ _ _ _ (Ne.symm ndk)]; exact hk) hl
    (fun j hj => by rw [row_rw_ne _ _ _ _ (Ne.symm (nds j))]; exact hrow j hj) (fun j hj => by rw [row_rw_ne _ _ _ _ (Ne.symm (nds j))]; exact hrest j hj) (row_rw_same _ _ _) hdl hdk
  refine ⟨s', w1.trans h1, h2, h3, fun j a b => ?_⟩
  rw [h4 j a b, row_rw_ne _ _ _ _ (beq_eq_false_iff_ne.1 b)]
theorem again_grow0 [Held] {α : Type} {I : α → St → Prop} {μ : α → Nat} {m : Nat} (hk : s.rw k = ⟨v, .tab e (cellsT k (List.range n) ++ [.own d vd])⟩) (hl : M.length = n) (hrow : ∀ j, j < n → s.rw (sid k j) = ⟨1, .sli e2 1 false (iL (M.getD j []))⟩) (hrest : ∀ j, n ≤ j → s.rw (sid k j) = ⟨0, .dead⟩)
    (hd : s.rw d = ⟨vd, .sli e2 1 false (iL r)⟩) (hdl : d < lent) (hdk : (d % 1000 == k % 1000) = false) (x' : α)
    (h0 : ∀ s', TabG s'.rw k v e e2 (n + 1) (M ++ [r]) → s'.sl = s.sl → (∀ j, (j % 1000 == k % 1000) = false → (j == d) = false → s'.rw j = s.rw j) → I x' s') (hm : μ x' < m) : again I μ m s := by
  obtain ⟨s', hw, ht, hsl, ho⟩ := TabG.push0 hk hl hrow hrest hd hdl hdk
  exact ⟨x', s', hw, h0 s' ht hsl ho, hm⟩
end
theorem TabI.adopt [Held] {s : St} {rw' : Nat → Row} {d v e e2 n : Nat} {M : Mat} (h1 : rw' d = (adoptSt s d (.tb e e2 (M.map iL))).rw d) (h2 : ∀ x, rw' (sid d x) = (adoptSt s d (.tb e e2 (M.map iL))).rw (sid d x)) (h : ∀ i, i < M.length → (s.rw (sid d i)).ver = 0) (hv : (s.rw d).ver + 1 = v) (hn : M.length = n) :
    TabI rw' d v e e2 (List.range n) M := by
  subst hv hn
  have h0 : TabI (adoptSt s d (.tb e e2 (M.map iL))).rw d ((s.rw d).ver + 1) e e2 (List.range M.length) M := ⟨by
    have := adoptT_is (s := s) d e e2 (M.map iL) (fun i hi => h i (by simpa using hi))
    rwa [List.length_map] at this, List.nodup_range⟩
  exact h0.same h1 h2
theorem AC.flat [Held] {P : Program} {f : FuncId} {args : List PV} {e e2 : Nat} {rows : List (List PV)} (h : AC P f args (.tb e e2 rows)) : AC P f args (.fr e 1 (rows.map fun r => .sl false 1 r)) := by
  refine ⟨h.1, fun w vals hp hv => (h.2 w vals hp hv).mono fun en w' ⟨v, lv, he, hx, hout, hn⟩ => ?_⟩
  cases hout with
  | tbn => exact ⟨_, _, he, hx, .nil, by simp [blk]⟩
  | @tb _ _ b n cap _ vs rest lvs hB hh hnn hc hm hl h1 h2 hvv hin =>
    refine ⟨_, [(.slice (some ⟨b, 0, none⟩) n cap, some b)], he, hx, .fr hB hh (by omega) hc hm (by omega) ⟨by simp [h1, hnn], fun i a b' => ?_⟩, by simp [blk]⟩
    have hi : i < rows.length := by simpa using a
    have h0 := hin i hi b' (by omega)
    simp only [List.getElem_map]
    have hbl : blk ((Value.slice (some ⟨b, 0, none⟩) n cap, some b) :: lvs) = b :: blk lvs := rfl
    have e1 : blk [(Value.slice (some ⟨b, 0, none⟩) n cap, some b)] = [b] := rfl
    rw [e1]
    rw [hbl] at hn h0
    generalize hri : rows[i] = ri at *
    generalize hvi : vs[i] = vi at *
    generalize hli : lvs[i]'(by omega) = li at *
    cases h0 with
    | nil => exact rep_nil _ _ _ _ _
    | @fr _ _ b2 n2 cap2 _ vs2 rest2 hB2 hh2 hn2 hc2 hm2 hl2 hr2 =>
      have hb2 : b2 ∈ blk lvs := by
        simp only [blk, List.mem_filterMap]
        exact ⟨_, List.getElem_mem (by omega : i < lvs.length), by rw [hli]⟩
      have hne : b2 ≠ b := fun e => (List.nodup_cons.1 hn).1 (e ▸ hb2)
      have hB3 : w.heap.size ≤ b2 := hB2
      refine .sl (fun j => vs2.getD j undef) (hr2.1.trans hn2) hc2 hm2 (fun j hj => ⟨b2, 0, rfl, ?_, fun hL => ?_, ?_⟩) (fun j hj => ?_)
      · show max w.heap.size (if false = true then _ else 0) ≤ b2
        simp; exact hB3
      · rcases hL with hL | hL
        · have : b2 < w.heap.size := hL
          omega
        · exact hne (List.mem_singleton.1 hL)
      · have hj' : j < vs2.length := by rw [← hr2.1]; exact hj
        rw [Nat.zero_add, cell_of_list hh2 (by simp; omega)]
        simp [List.getElem_append_left hj', List.getD, hj']
      · have hj' : j < vs2.length := by rw [← hr2.1]; exact hj
        have e2' : vs2.getD j undef = vs2[j] := by simp [List.getD, hj']
        rw [e2']
        have h3 := hr2.2 j hj hj'
        have h4 : Rep w' (Env.out w.heap.size [b]).bare.bare w.heap.size ri[j] vs2[j] := by
          refine Rep.above (E := (Env.out w.heap.size (b :: blk lvs)).bare) h3 (fun _ => rfl) (fun _ => rfl) rfl rfl fun x hx' hL hL' => ?_
          rcases hL' with hL' | hL'
          · exact hL (.inl hL')
          · exact hL (.inr (by rw [List.mem_singleton.1 hL']; exact List.mem_cons_self))
        refine h4.low ?_
        show max w.heap.size (if false = true then _ else 0) ≤ w.heap.size
        simp
end Go.Abs

/- DERIVED by an AI agent. Tables whose rows are appended to. No program in sight. -/
namespace Go.Abs
set_option linter.unusedSimpArgs false
set_option linter.unusedVariables false
def cellsF (k n : Nat) (g : Nat → Nat) : List PV := (List.range n).map fun j => .own (sid k j) (g j)
theorem cellsF_length (k n : Nat) (g : Nat → Nat) : (cellsF k n g).length = n := by simp [cellsF]
structure TabF (rw : Nat → Row) (k v e e2 n : Nat) (g : Nat → Nat) (M : Nat → List Int) : Prop where
  top : rw k = ⟨v, .tab e (cellsF k n g)⟩
  row : ∀ j, j < n → rw (sid k j) = ⟨g j, .sli e2 1 false (iL (M j))⟩
section
variable {s : St} {rw rw' : Nat → Row} {k v e e2 n : Nat} {g : Nat → Nat} {M : Nat → List Int}
theorem TabF.same (h : TabF rw k v e e2 n g M) (h1 : rw' k = rw k) (h2 : ∀ x, rw' (sid k x) = rw (sid k x)) : TabF rw' k v e e2 n g M := ⟨h1.trans h.top, fun j hj => (h2 j).trans (h.row j hj)⟩
theorem TabF.add (h : TabF rw k v e e2 n g M) {o : Nat} (ho : o < n) {r : List Int} {g' : Nat → Nat} {M' : Nat → List Int} (h1 : rw' k = ⟨v, .tab e (spl (cellsF k n g) o [.own (sid k o) (g o + 1)])⟩) (h2 : rw' (sid k o) = ⟨g o + 1, .sli e2 1 false (iL r)⟩)
    (h3 : ∀ x, ¬ x = o → rw' (sid k x) = rw (sid k x)) (hg : ∀ j, j < n → g' j = if j = o then g o + 1 else g j) (hM : ∀ j, j < n → M' j = if j = o then r else M j) : TabF rw' k v e e2 n g' M' := by
  refine ⟨?_, fun j hj => ?_⟩
  · rw [h1]
    congr 2
    show (cellsF k n g).set o _ = _
    refine List.ext_getElem (by simp [cellsF]) fun j a b => ?_
    have hj : j < n := by simpa [cellsF] using b
    rw [List.getElem_set]
    simp only [cellsF, List.getElem_map, List.getElem_range, hg j hj]
    by_cases e : o = j
    · subst e; simp
    · rw [if_neg e, if_neg (Ne.symm e)]
  · rw [hg j hj, hM j hj]
    by_cases e : j = o
    · subst e; rw [if_pos rfl, if_pos rfl, h2]
    · rw [if_neg e, if_neg e, h3 j e, h.row j hj]
theorem ld_cellsF [Held] {T : Tab} {Kp : PV → Prop} (k n : Nat) (g : Nat → Nat) {t : TypeId} (o : Nat) (h0 : (T t).k.agg = false) (h1 : 0 < (T t).size) : ldK T t .asis (cellsF k n g) o Kp = (o < n ∧ Kp (.own (sid k o) (g o))) := by
  have := ld_list (T := T) (Kp := Kp) (fun j => PV.own (sid k j) (g j)) 0 (List.range n) (t := t) (m := .asis) o (fun j => .own (sid k j) (g j)) (fun _ => rfl) h0 h1
  refine (show ldK T t .asis (cellsF k n g) o Kp = _ from this).trans ?_
  rw [List.length_range]
  refine propext ⟨fun ⟨a, b⟩ => ⟨a, ?_⟩, fun ⟨a, b⟩ => ⟨a, ?_⟩⟩
  · have e1 : (List.range n).getD o 0 = o := by simp [List.getD, a]
    rwa [e1] at b
  · have e1 : (List.range n).getD o 0 = o := by simp [List.getD, a]
    rwa [e1]
theorem TabF.init [Held] (e2 : Nat) (hk : s.rw k = ⟨v, .sli e 1 false (List.replicate n (.v (.slice none 0 0)))⟩) (hd : ∀ j, s.rw (sid k j) = ⟨0, .dead⟩) :
    ∃ s', Wk s s' ∧ TabF s'.rw k v e e2 n (fun _ => 1) (fun _ => []) ∧ s'.sl = s.sl ∧ ∀ j, (j % 1000 == k % 1000) = false → s'.rw j = s.rw j := by
  let R' : (Nat → Row) → Nat → Row := fun R j => if j = k then ⟨v, .tab e (cellsF k n fun _ => 1)⟩ else if k < j ∧ (j - k) % 1000 = 0 ∧ (j - k) / 1000 - 1 < n then ⟨1, .sli e2 1 false []⟩ else R j
  have Rk : ∀ R, R' R k = ⟨v, .tab e (cellsF k n fun _ => 1)⟩ := fun R => by simp only [R', if_true]
  have Rs : ∀ R j, j < n → R' R (sid k j) = ⟨1, .sli e2 1 false []⟩ := fun R j hj => by
    have h1 : ¬ sid k j = k := sid_ne k j
    have h2 : k < sid k j ∧ (sid k j - k) % 1000 = 0 ∧ (sid k j - k) / 1000 - 1 < n := by rw [sid_eq]; omega
    simp only [R', if_neg h1, if_pos h2]
  have Ro : ∀ R j, ¬ (j = k ∨ ∃ i, i < n ∧ j = sid k i) → R' R j = R j := fun R j hj => by
    have h1 : ¬ j = k := fun h => hj (.inl h)
    have h2 : ¬ (k < j ∧ (j - k) % 1000 = 0 ∧ (j - k) / 1000 - 1 < n) := fun h => hj (.inr ⟨_, h.2.2, by rw [sid_eq]; omega⟩)
    simp only [R', if_neg h1, if_neg h2]
  refine ⟨{ s with rw := R' s.rw }, ?_, ⟨Rk _, fun j hj => Rs _ j hj⟩, rfl, fun j hj => ?_⟩
  · intro G a w ⟨E, hs⟩
    have hR : E.R k = ⟨v, .sli e 1 false (List.replicate n (.v (.slice none 0 0)))⟩ := by rw [hs.rw]; exact hk
    have hD : ∀ j, E.R (sid k j) = ⟨0, .dead⟩ := fun j => by rw [hs.rw]; exact hd j
    let rm' : Nat → Option Nat := fun j => if j = k then E.rm k else if k < j ∧ (j - k) % 1000 = 0 ∧ (j - k) / 1000 - 1 < n then none else E.rm j
    let rv' : Nat → Value := fun j => if j = k then E.rv k else if k < j ∧ (j - k) % 1000 = 0 ∧ (j - k) / 1000 - 1 < n then .slice none 0 0 else E.rv j
    have Mk : rm' k = E.rm k := by simp only [rm', if_true]
    have Vk : rv' k = E.rv k := by simp only [rv', if_true]
    have cond : ∀ j, j < n → ¬ sid k j = k ∧ (k < sid k j ∧ (sid k j - k) % 1000 = 0 ∧ (sid k j - k) / 1000 - 1 < n) := fun j hj => ⟨sid_ne k j, by rw [sid_eq]; omega⟩
    have Ms : ∀ j, j < n → rm' (sid k j) = none := fun j hj => by simp only [rm', if_neg (cond j hj).1, if_pos (cond j hj).2]
    have Vs : ∀ j, j < n → rv' (sid k j) = .slice none 0 0 := fun j hj => by simp only [rv', if_neg (cond j hj).1, if_pos (cond j hj).2]
    have out : ∀ j, ¬ (j = k ∨ ∃ i, i < n ∧ j = sid k i) → rm' j = E.rm j ∧ rv' j = E.rv j := fun j hj => by
      have h1 : ¬ j = k := fun h => hj (.inl h)
      have h2 : ¬ (k < j ∧ (j - k) % 1000 = 0 ∧ (j - k) / 1000 - 1 < n) := fun h => hj (.inr ⟨_, h.2.2, by rw [sid_eq]; omega⟩)
      simp only [rm', rv', if_neg h1, if_neg h2, and_self]
    let E' : Env := { R := R' E.R, rm := rm', rv := rv', L := mkL E.X (R' E.R) rm', B := E.B, X := E.X }
    have ht : Turn G E E' w w (fun j => j = k ∨ ∃ i, i < n ∧ j = sid k i) := by
      refine ⟨rfl, rfl, rfl, fun j hj => ⟨Ro _ j hj, (out j hj).1, (out j hj).2⟩, fun _ _ _ => rfl, fun j b hj hb hn => ?_, fun j hj => ?_, fun j hj he hsl => ?_, fun j hj he hsl => ?_, fun j hj hn => ?_, fun j j' b hj hj' h1 h2 e1 e2 => ?_, Nat.le_refl _, rfl, rfl, ⟨rfl, fun _ => by first | exact Nat.le_refl _ | exact Nat.le_succ _⟩⟩
      · rcases hj with rfl | ⟨i, hi, rfl⟩
        · have hb : rm' j = some b := hb
          rw [Mk] at hb
          exact .inr ⟨hb, by rw [hR]; rfl, fun _ => by rw [hR]; rfl⟩
        · have hb : rm' (sid k i) = some b := hb
          rw [Ms i hi] at hb; cases hb
      · show _ ≤ (R' E.R j).ver
        rcases hj with rfl | ⟨i, hi, rfl⟩
        · rw [Rk, hR]; exact Nat.le_refl _
        · rw [Rs _ i hi, hD]; exact Nat.zero_le _
      · have he : (R' E.R j).ver = (E.R j).ver := he
        rcases hj with rfl | ⟨i, hi, rfl⟩
        · exact ⟨by rw [hR]; rfl, Vk⟩
        · rw [Rs _ i hi, hD] at he; cases he
      · have he : (R' E.R j).ver = (E.R j).ver := he
        rcases hj with rfl | ⟨i, hi, rfl⟩
        · exact ⟨by rw [hR]; rfl, Mk⟩
        · rw [Rs _ i hi, hD] at he; cases he
      · show 0 < (R' E.R j).ver
        rcases hj with rfl | ⟨i, hi, rfl⟩
        · have := hs.wok.pos j (by rw [hR]; rfl)
          rw [hR] at this
          rw [Rk]; exact this
        · rw [Rs _ i hi]; exact Nat.one_pos
      · have e1 : rm' j = some b := e1
        have e2 : rm' j' = some b := e2
        rcases hj with rfl | ⟨i, hi, rfl⟩
        · rcases hj' with rfl | ⟨i', hi', rfl⟩
          · rfl
          · rw [Ms i' hi'] at e2; cases e2
        · rw [Ms i hi] at e1; cases e1
    have hrows : ∀ j, (j = k ∨ ∃ i, i < n ∧ j = sid k i) → RowOk w E' G.C j := by
      intro j hj
      unfold RowOk
      show match (R' E.R j).kind with | .dead => True | .nil => _ | .box t cells => _ | .sli e sz _ cells => _ | .tab e cells => _
      rcases hj with rfl | ⟨i, hi, rfl⟩
      · have hrow := hs.wok.rows j
        unfold RowOk at hrow
        rw [hR] at hrow
        rw [Rk]
        show (rm' j = none ∧ rv' j = _ ∧ _) ∨ _
        rw [Mk, Vk]
        rcases hrow with ⟨h1, h2, h3⟩ | ⟨b, m, cap, vs, rest, h1, h2, h3, h4, h5, h6, h7, h8, h9⟩
        · refine .inl ⟨h1, h2, ?_⟩
          have : n = 0 := by simpa using congrArg List.length h3
          subst this; rfl
        · refine .inr ⟨b, m, cap, vs, rest, Mk.trans h1, h2, Vk.trans h3, h4, by omega, h6, h7, by omega, by rw [cellsF_length, ← h9.1]; simp, fun i a' b' => ?_⟩
          have hi : i < n := by simpa [cellsF] using a'
          have h0 := h9.2 i (by simpa using hi) b'
          have e1 : (cellsF j n fun _ => 1)[i] = .own (sid j i) 1 := by simp [cellsF]
          have hv : vs[i] = .slice none 0 0 := by
            simp only [List.getElem_replicate] at h0
            exact h0.v_eq
          rw [e1, hv]
          refine .own ?_ fun _ _ => ?_
          · show 1 ≤ (R' E.R (sid j i)).ver
            rw [Rs _ i hi]; exact Nat.le_refl _
          · exact (Vs i hi).symm
      · rw [Rs _ i hi]
        exact .inl ⟨Ms i hi, Vs i hi, rfl⟩
    have key : SimE G E' ({ s with rw := R' E.R } : St) a w := ht.sim hs hrows
    rw [hs.rw] at key
    exact ⟨_, key⟩
  · have hj := beq_eq_false_iff_ne.1 hj
    refine Ro _ j fun h => hj ?_
    rcases h with rfl | ⟨i, _, rfl⟩
    · rfl
    · exact sid_mod _ _
variable {Q : AX → St → Prop}
theorem loop_nils [Held] {α : Type} (hk : s.rw k = ⟨v, .sli e 1 false (List.replicate n (.v (.slice none 0 0)))⟩) (hd : ∀ j, s.rw (sid k j) = ⟨0, .dead⟩) (I : α → St → Prop) (μ : α → Nat) (x0 : α) {b : (AX → St → Prop) → St → Prop} {u : Dm b} {w : Dm Q}
    (h0 : ∀ s', TabF s'.rw k v e e2 n (fun _ => 1) (fun _ => []) → s'.sl = s.sl → (∀ j, (j % 1000 == k % 1000) = false → s'.rw j = s.rw j) → I x0 s') (h : ∀ x s1, I x s1 → b (AX.seq (again I μ (μ x)) Q) s1) : loopK (kk b u) (kk Q w) s := by
  obtain ⟨s', hw, ht, hsl, ho⟩ := TabF.init e2 hk hd
  exact ⟨α, I, μ, ⟨x0, s', hw, h0 s' ht hsl ho⟩, h⟩
theorem tabOut_F {ids : List Nat} : ∀ (l : List Nat) (rows : List (List PV)) (K : List Nat → Prop), rows.length = l.length → (∀ i (a : i < l.length) (b : i < rows.length), sid k l[i] < lent ∧ rw (sid k l[i]) = ⟨g l[i], .sli e2 1 false rows[i]⟩) → K (l.map (sid k)) →
    tabOut rw e2 (l.map fun j => .own (sid k j) (g j)) rows K := by
  intro l
  induction l with
  | nil => intro rows K h _ hk; cases rows with | nil => exact hk | cons r rs => simp at h
  | cons j l ih =>
    intro rows K h hr hk
    cases rows with
    | nil => simp at h
    | cons r rs =>
      have h0 := hr 0 (by simp) (by simp)
      exact ⟨h0.1, h0.2, ih rs _ (by simpa using h) (fun i a b => hr (i + 1) (by simpa using a) (by simpa using b)) hk⟩
theorem out2_tabF [Held] (h : TabF rw k v e e2 n g M) (hk : k < 1000) (hn : n ≤ 900) : out2 rw (.own k v) (.tb e e2 ((List.range n).map fun j => iL (M j))) List.Nodup := by
  have hkl : k < lent := by unfold lent; omega
  show out0 rw (.own k v) (.tb e e2 _) List.Nodup
  unfold out0
  simp only [h.top]
  refine ⟨hkl, trivial, trivial, tabOut_F (ids := []) (List.range n) _ _ (by simp) (fun i a b => ?_) ?_⟩
  · have hi : i < n := by simpa using a
    simp only [List.getElem_range, List.getElem_map]
    exact ⟨sid_lent hk (by omega), h.row i hi⟩
  · refine List.nodup_cons.2 ⟨fun hm => ?_, ?_⟩
    · obtain ⟨j, _, hj⟩ := List.mem_map.1 hm
      rw [sid_eq] at hj; omega
    · refine List.Pairwise.map _ (fun a b hab => ?_) List.nodup_range
      rw [Ne, sid_inj]; exact hab
end
end Go.Abs

/- DERIVED by an AI agent. Functions that are given a table and hand it back longer. No program in sight. -/
namespace Go.Abs
set_option linter.unusedSimpArgs false
set_option linter.unusedVariables false
theorem rangeG {n i : Nat} (h : i < n) : (List.range n).getD i 0 = i := by simp [List.getD, h]
structure TabU (rw : Nat → Row) (k v e e2 : Nat) (ids : List (Nat × Nat)) (M : Mat) : Prop where
  top : rw k = ⟨v, .tab e (ids.map fun x => .own x.1 x.2)⟩
  len : ids.length = M.length
  row : ∀ i (h : i < ids.length), rw ids[i].1 = ⟨ids[i].2, .sli e2 1 false (iL (M.getD i []))⟩
  nd : (k :: ids.map (·.1)).Nodup
def growPost (e e2 n : Nat) (M' : Mat) (R1 : Nat → Row) (p : PV) : Prop :=
  ∃ (v : Nat) (ids : List (Nat × Nat)), p = .own lent v ∧ TabU R1 lent v e e2 ids M' ∧ n ≤ ids.length ∧ ∀ i (_ : i < n) (h : i < ids.length), ids[i] = (sid lent i, 1)
def AGr [Held] (P : Program) (f : FuncId) (args : List PV) (e e2 : Nat) (M M' : Mat) : Prop := AG P f args (inT e e2 (M.map iL)) (growPost e e2 M.length M')
theorem nd_get {l : List Nat} (h : l.Nodup) {i j : Nat} (hi : i < l.length) (hj : j < l.length) (e : l[i] = l[j]) : i = j := (List.getElem_inj (h₀ := hi) (h₁ := hj) h).1 e
section
variable {R1 : Nat → Row} {k v e e2 n : Nat} {ids : List (Nat × Nat)} {M : Mat}
theorem TabU.inj [Held] (h : TabU R1 k v e e2 ids M) {i j : Nat} (hi : i < ids.length) (hj : j < ids.length) (he : ids[i].1 = ids[j].1) : i = j :=
  nd_get (List.nodup_cons.1 h.nd).2 (by simpa using hi) (by simpa using hj) (by simpa using he)
theorem TabU.ne (h : TabU R1 k v e e2 ids M) {i : Nat} (hi : i < ids.length) : ids[i].1 ≠ k := fun he =>
  (List.nodup_cons.1 h.nd).1 (List.mem_map.2 ⟨_, List.getElem_mem hi, he⟩)
theorem TabG.toU [Held] (h : TabG R1 k v e e2 n M) : TabU R1 k v e e2 ((List.range n).map fun j => (sid k j, 1)) M := by
  refine ⟨by rw [h.top]; simp [cellsT], by simp [h.len], fun i hi => ?_, ?_⟩
  · have hi' : i < n := by simpa using hi
    simpa using h.row i hi'
  · refine List.nodup_cons.2 ⟨fun hm => ?_, ?_⟩
    · simp only [List.map_map, List.mem_map] at hm
      obtain ⟨j, _, hj⟩ := hm
      exact sid_ne k j hj
    · rw [List.map_map]
      refine List.Pairwise.map _ (fun a b hab => ?_) List.nodup_range
      exact fun e => hab (sid_inj' e)
theorem growPost_same [Held] {n' : Nat} {p : PV} (h : TabG R1 lent v e e2 n' M) (hn : n ≤ n') (hp : p = .own lent v) : growPost e e2 n M R1 p :=
  ⟨v, _, hp, h.toU, by simp; exact hn, fun i hi hi' => by simp⟩
theorem grow_same [Held] {n' : Nat} {p : PV} (h : TabG R1 1000000 v e e2 n' M) (hn : n ≤ n') (hp : p = .own 1000000 v) : growPost e e2 n M R1 p := growPost_same h hn hp
def rhoK (k n j : Nat) : Option Nat := if j = lent then some k else if lent < j ∧ (j - lent) % 1000 = 0 ∧ (j - lent) / 1000 - 1 < n then some (sid k ((j - lent) / 1000 - 1)) else none
theorem rhoK_top (k n : Nat) : rhoK k n lent = some k := by unfold rhoK; rw [if_pos rfl]
theorem rhoK_row [Held] (k : Nat) {n i : Nat} (h : i < n) : rhoK k n (sid lent i) = some (sid k i) := by
  obtain ⟨h1, h2, h3⟩ := sid_gt i
  unfold rhoK; rw [if_neg (by omega), if_pos ⟨h1, h2, by omega⟩, h3]
theorem rhoK_some [Held] {k n j i : Nat} (h : rhoK k n j = some i) : (j = lent ∧ i = k) ∨ ∃ x, x < n ∧ j = sid lent x ∧ i = sid k x := by
  unfold rhoK at h
  split at h
  · cases h; exact .inl ⟨‹_›, rfl⟩
  · split at h
    · rename_i h2
      cases h
      exact .inr ⟨_, h2.2.2, by rw [sid_eq]; omega, rfl⟩
    · cases h
theorem gv_top [Held] {e e2 k n v : Nat} {rows : List (List PV)} {Ln : Nat → Prop} {R : Nat → Row} (h : (R k).ver = v) : GvA (rhoK k n) Ln (inT e e2 rows) R (.own 1000000 1) (.own k v) :=
  .own (rhoK_top k n) (by show (inT e e2 rows lent).ver = 1; rw [inT_top]) h (by show (inT e e2 rows lent).kind.slice = true; rw [inT_top]; rfl)
structure TabH (rw : Nat → Row) (k v e e2 n : Nat) (M : Mat) : Prop where
  top : rw k = ⟨v, .tab e (cellsT k (List.range n))⟩ ∨ (n = 0 ∧ rw k = ⟨v, .sli e 1 false []⟩)
  len : M.length = n
  row : ∀ j, j < n → rw (sid k j) = ⟨1, .sli e2 1 false (iL (M.getD j []))⟩
  rest : ∀ j, n ≤ j → rw (sid k j) = ⟨0, .dead⟩
theorem TabG.toH {rw : Nat → Row} (h : TabG rw k v e e2 n M) : TabH rw k v e e2 n M := ⟨.inl h.top, h.len, h.row, h.rest⟩
theorem TabH.ver {rw : Nat → Row} (h : TabH rw k v e e2 n M) : (rw k).ver = v := by rcases h.top with h | ⟨_, h⟩ <;> rw [h]
theorem TabH.give [Held] {rw : Nat → Row} {Ln : Nat → Prop} (h : TabH rw k v e e2 M.length M) (hl : ∀ j, Ln j → (j % 1000 == k % 1000) = false) : Give (rhoK k M.length) Ln (inT e e2 (M.map iL)) rw := by
  have hlm : (M.map iL).length = M.length := List.length_map _
  have hcells : ∀ l : List Nat, (∀ j ∈ l, j < M.length) → GvL (rhoK k M.length) Ln (inT e e2 (M.map iL)) rw (cellsT lent l) (cellsT k l) := by
    intro l
    induction l with
    | nil => intro _; exact .nil
    | cons j l ih =>
      intro hj
      have h1 := hj j (by simp)
      refine .one (.own (rhoK_row k h1) ?_ ?_ ?_) (ih fun x hx => hj x (by simp [hx]))
      · rw [inT_row (by rw [hlm]; exact h1)]
      · rw [h.row j h1]
      · rw [inT_row (by rw [hlm]; exact h1)]; rfl
  refine ⟨fun j hj => ?_, fun j j' i n1 n2 h1 h2 => ?_, fun j i hj hr hln => ?_⟩
  · rcases inT_nd hj with rfl | ⟨i, hi, rfl⟩
    · refine ⟨Nat.le_refl _, by rw [inT_top]; exact Nat.one_pos, k, rhoK_top _ _, ?_⟩
      rw [inT_top, hlm]
      rcases h.top with ht | ⟨h0, ht⟩
      · rw [ht]
        exact ⟨rfl, hcells _ fun j hj => List.mem_range.1 hj⟩
      · rw [ht]
        exact ⟨rfl, rfl, by rw [h0]; rfl, rfl⟩
    · rw [hlm] at hi
      refine ⟨Nat.le_of_lt (sid_gt i).1, by rw [inT_row (by rw [hlm]; exact hi)]; exact Nat.one_pos, _, rhoK_row k hi, ?_⟩
      rw [inT_row (by rw [hlm]; exact hi), h.row i hi, mapI_getD]
      exact ⟨rfl, rfl, rfl, plain_iL _⟩
  · rcases rhoK_some h1 with ⟨a1, a2⟩ | ⟨x, _, a1, a2⟩ <;> rcases rhoK_some h2 with ⟨b1, b2⟩ | ⟨y, _, b1, b2⟩
    · rw [a1, b1]
    · rw [a2] at b2; exact absurd b2.symm (sid_ne k y)
    · rw [a2] at b2; exact absurd b2 (sid_ne k x)
    · rw [a2] at b2; have := sid_inj' b2; subst this; rw [a1, b1]
  · have hm := beq_eq_false_iff_ne.1 (hl i hln)
    rcases rhoK_some hr with ⟨_, rfl⟩ | ⟨x, _, _, rfl⟩
    · exact hm rfl
    · exact hm (sid_mod _ _)
end
theorem askGrow_of [Held] {P : Program} {s : St} {K : St → Prop} {f : FuncId} {args raw lents : List PV} {Ka : RV → Prop} {d k v e e2 : Nat} {us : Dm s} {u : Dm K} {M M' : Mat} (h : AGr P f args e e2 M M') (Ln : Nat → Prop)
    (hl : GvL (rhoK k M.length) Ln (inT e e2 (M.map iL)) s.rw args raw) (ht : TabH s.rw k v e e2 M.length M) (hln : ∀ j, Ln j → (j % 1000 == k % 1000) = false)
    (hk : ∀ (S : St) (v' : Nat), v ≤ v' → TabG S.rw k v' e e2 M'.length M' → S.sl d = .own k v' → (∀ t, t ≠ d → S.sl t = s.sl t) → (∀ j, (j % 1000 == k % 1000) = false → S.rw j = s.rw j) → K S) :
    askK P f lents Ka (askR P f lents raw (some d) (kk s us) (kk K u)) := by
  refine askG_of h _ Ln hl (ht.give hln) fun R1 p ⟨v1, ids, hp, hu, hn, hids⟩ => ?_
  subst hp
  have hlm : (M.map iL).length = M.length := List.length_map _
  let rho1 : Nat → Option Nat := fun j => if j = lent then some k else (ids.findIdx? (fun x => x.1 == j)).map (sid k)
  have top1 : rho1 lent = some k := if_pos rfl
  have row1 : ∀ i (hi : i < ids.length), rho1 ids[i].1 = some (sid k i) := fun i hi => by
    have hf : ids.findIdx? (fun x => x.1 == ids[i].1) = some i := by
      rw [List.findIdx?_eq_some_iff_getElem]
      refine ⟨hi, by simp, fun j hj => ?_⟩
      simp only [beq_iff_eq]
      intro he
      have := hu.inj (by omega) hi he
      omega
    show (if ids[i].1 = lent then _ else _) = _
    rw [if_neg (hu.ne hi), hf]; rfl
  have some1 : ∀ j x, rho1 j = some x → (j = lent ∧ x = k) ∨ ∃ i, ∃ hi : i < ids.length, j = ids[i].1 ∧ x = sid k i := fun j x hx => by
    have hx : (if j = lent then some k else (ids.findIdx? (fun x => x.1 == j)).map (sid k)) = some x := hx
    split at hx
    · cases hx; exact .inl ⟨‹_›, rfl⟩
    · cases hf : ids.findIdx? (fun x => x.1 == j) with
      | none => rw [hf] at hx; cases hx
      | some i =>
        rw [hf] at hx; cases hx
        rw [List.findIdx?_eq_some_iff_getElem] at hf
        obtain ⟨hi, h1, _⟩ := hf
        exact .inr ⟨i, hi, (beq_iff_eq.1 h1).symm, rfl⟩
  have given : ∀ i (hi : i < ids.length), i < M.length → ids[i].1 = sid lent i := fun i hi h => by rw [hids i h hi]
  let nv : Nat → Nat := fun j => if j = lent then (if v1 = 1 then v else v + 1) else 1
  have nvt : nv lent = if v1 = 1 then v else v + 1 := if_pos rfl
  have nvr : ∀ i (hi : i < ids.length), nv ids[i].1 = 1 := fun i hi => if_neg (hu.ne hi)
  refine ⟨rho1, nv, false, ⟨fun j hj => ?_, fun j j' x h1 h2 => ?_, fun j x hx hn1 hv => ?_, fun j x hx hn1 => ?_, fun h => by cases h⟩, fun S hS => ?_⟩
  · rcases inT_nd hj with rfl | ⟨i, hi, rfl⟩
    · rw [top1, rhoK_top]
    · rw [hlm] at hi
      have hi' : i < ids.length := by omega
      rw [rhoK_row k hi, ← given i hi' hi, row1 i hi']
  · rcases some1 j x h1 with ⟨a1, a2⟩ | ⟨i, hi, a1, a2⟩ <;> rcases some1 j' x h2 with ⟨b1, b2⟩ | ⟨i', hi', b1, b2⟩
    · rw [a1, b1]
    · rw [a2] at b2; exact absurd b2.symm (sid_ne k i')
    · rw [a2] at b2; exact absurd b2 (sid_ne k i)
    · rw [a2] at b2; have := sid_inj' b2; subst this; rw [a1, b1]
  · rcases some1 j x hx with ⟨rfl, rfl⟩ | ⟨i, hi, rfl, rfl⟩
    · rw [hu.top, inT_top] at hv
      have hv : v1 = 1 := hv
      rw [nvt, if_pos hv, ht.ver]
    · rw [nvr i hi]
      have : i < M.length := by
        rcases inT_nd hn1 with h | ⟨i', hi', h⟩
        · exact absurd h (hu.ne hi)
        · rw [hlm] at hi'
          have hi2 : i' < ids.length := by omega
          rw [← given i' hi2 hi'] at h
          have := hu.inj hi hi2 h
          omega
      rw [ht.row i this]
  · rcases some1 j x hx with ⟨rfl, rfl⟩ | ⟨i, hi, rfl, rfl⟩
    · have hv := hn1 (by rw [inT_top]; rfl)
      rw [hu.top, inT_top] at hv
      have hv : ¬ v1 = 1 := hv
      rw [nvt, if_neg hv, ht.ver]; omega
    · rw [nvr i hi]
      by_cases him : i < M.length
      · have h2 := hids i him hi
        have hv := hn1 (by rw [h2, inT_row (by rw [hlm]; exact him)]; rfl)
        rw [hu.row i hi, h2, inT_row (by rw [hlm]; exact him)] at hv
        exact absurd rfl hv
      · rw [ht.rest i (by omega)]; exact Nat.one_pos
  · have hren : ∀ x ∈ ids, ∀ (i : Nat) (hi : i < ids.length), ids[i] = x → ren1 rho1 R1 nv false (.own x.1 x.2) = .own (sid k i) 1 := fun x _ i hi he => by
      subst he
      have := renA_own rho1 R1 nv false ids[i].1 ids[i].2
      rw [row1 i hi, hu.row i hi] at this
      simp only [beq_self_eq_true, nvr i hi] at this
      exact this
    have hcell : (ids.map fun x => PV.own x.1 x.2).map (ren1 rho1 R1 nv false) = cellsT k (List.range M'.length) := by
      refine List.ext_getElem (by simp [cellsT, hu.len]) fun i a b => ?_
      have hi : i < ids.length := by simpa using a
      simp only [List.getElem_map, cellsT, List.getElem_range]
      exact hren _ (List.getElem_mem hi) i hi rfl
    refine hk S (nv lent) (by rw [nvt]; split <;> omega) ⟨?_, rfl, fun j hj => ?_, fun j hj => ?_⟩ ?_ (fun t ht' => ?_) fun j hj => ?_
    · rw [hS.row lent k top1, hu.top]
      show (⟨nv lent, .tab e _⟩ : Row) = _
      rw [hcell]
    · have hj' : j < ids.length := by rw [hu.len]; exact hj
      rw [hS.row _ _ (row1 j hj'), hu.row j hj', nvr j hj']; rfl
    · rw [hS.off _ fun j' hx => ?_]
      · exact ht.rest j (by rw [← hu.len] at hj; omega)
      · rcases some1 j' _ hx with ⟨_, h2⟩ | ⟨i, hi, _, h2⟩
        · exact sid_ne k j h2
        · have := sid_inj' h2; rw [hu.len] at hi; omega
    · rw [hS.sl]
      show (s.put (some d) _).sl d = _
      rw [put_sl_same]
      have := renA_own rho1 R1 nv false lent v1
      rw [top1, hu.top] at this
      simp only [beq_self_eq_true] at this
      exact this
    · rw [hS.sl, put_sl_ne _ _ _ _ ht']
    · have hm := beq_eq_false_iff_ne.1 hj
      refine hS.off j fun j' hx => hm ?_
      rcases some1 j' _ hx with ⟨_, rfl⟩ | ⟨i, hi, _, rfl⟩
      · rfl
      · exact sid_mod _ _
def newPost (wrap : PV → PV) (e e2 : Nat) (M : Mat) (R1 : Nat → Row) (p : PV) : Prop := ∃ (k v : Nat) (ids : List (Nat × Nat)), p = wrap (.own k v) ∧ TabU R1 k v e e2 ids M
def ANw [Held] (P : Program) (f : FuncId) (args : List PV) (wrap : PV → PV) (e e2 : Nat) (M : Mat) : Prop := AG P f args (fun _ => ⟨0, .dead⟩) (newPost wrap e e2 M)
theorem ANw.go [Held] {P : Program} {T : Tab} {f : FuncId} {fn : Func} {c : Code} {rs : List ResultVar} {args : List PV} {wrap : PV → PV} {e e2 : Nat} {M : Mat} (hT : T.Ok P) (hm : P.follows .mixedOrders = true) (hf : P.funcs[f]? = some fn) (hname : (fn.name == "runtime.NumGoroutine") = false)
    (hb : fn.body = some c) (hr : fn.results.toList = rs) (hfit : (fits fn.ntmps c && decide (args.length ≤ fn.ntmps) && decide (fn.results.toList.length ≤ 4)) = true)
    (h : lens args → ∀ s : St, (∀ i, s.sl i = args.getD i .junk) → (∀ j, s.rw j = ⟨0, .dead⟩) → cwp P T c (endG T rs (newPost wrap e e2 M)) s) : ANw P f args wrap e e2 M :=
  AG.go hT hm hf hname hb hr hfit fun h1 h2 s hs hrw => h h1 s hs hrw
theorem AGr.go [Held] {P : Program} {T : Tab} {f : FuncId} {fn : Func} {c : Code} {rs : List ResultVar} {args : List PV} {e e2 : Nat} {M M' : Mat} (hT : T.Ok P) (hm : P.follows .mixedOrders = true) (hf : P.funcs[f]? = some fn) (hname : (fn.name == "runtime.NumGoroutine") = false)
    (hb : fn.body = some c) (hr : fn.results.toList = rs) (hfit : (fits fn.ntmps c && decide (args.length ≤ fn.ntmps) && decide (fn.results.toList.length ≤ 4)) = true)
    (h : lens args → M.length ≤ 9223372036854775807 → ∀ s : St, (∀ i, s.sl i = args.getD i .junk) → (∀ j, j < 1000000 → s.rw j = ⟨0, .dead⟩) → TabG s.rw 1000000 1 e e2 M.length M → cwp P T c (endG T rs (growPost e e2 M.length M')) s) : AGr P f args e e2 M M' := by
  have hlm : (M.map iL).length = M.length := List.length_map _
  refine AG.go hT hm hf hname hb hr hfit fun h1 h2 s hs hrw => h h1 ?_ s hs (fun j hj => ?_) ⟨?_, rfl, fun j hj => ?_, fun j hj => ?_⟩
  · have := h2 lent
    rw [inT_top] at this
    have : (cellsT lent (List.range (M.map iL).length)).length ≤ 9223372036854775807 := this
    rwa [cellsT_length, List.length_range, hlm] at this
  · rw [hrw, inT_lo (by unfold lent; exact hj)]
  · rw [hrw]
    have := inT_top (e := e) (e2 := e2) (rows := M.map iL)
    rw [hlm] at this
    exact this
  · rw [hrw]
    have := inT_row (e := e) (e2 := e2) (rows := M.map iL) (i := j) (by rw [hlm]; exact hj)
    rw [mapI_getD] at this
    exact this
  · rw [hrw]
    by_cases hn : (inT e e2 (M.map iL) (sid lent j)).kind.nd = true
    · rcases inT_nd hn with h | ⟨i, hi, h⟩
      · exact absurd h (sid_ne _ _)
      · have := sid_inj' h; rw [hlm] at hi; omega
    · show inT e e2 (M.map iL) (sid lent j) = _
      unfold inT at hn ⊢
      split
      · rename_i h; exact absurd h (sid_ne _ _)
      · split
        · rename_i h1 h2; rw [if_neg h1, if_pos h2] at hn; exact absurd rfl hn
        · rfl
end Go.Abs

/- DERIVED by an AI agent. A nil slice seen as a row of nothing, to be appended to. No program in sight. -/
namespace Go.Abs
set_option linter.unusedSimpArgs false
set_option linter.unusedVariables false
theorem SimE.nilRow [Held] {G : Ghost} {E : Env} {s : St} {a : Act} {w : World} (hs : SimE G E s a w) (k e : Nat) :
    ∃ E', SimE G E' (s.row k ⟨(s.rw k).ver + 1, .sli e 1 false []⟩) a w ∧ Rep w E' 0 (.own k ((s.rw k).ver + 1)) (.slice none 0 0) := by
  have ht := turn_new (G := G) (E := E) (k := k) (kd := .sli e 1 false []) (m := none) (v := .slice none 0 0) (Ext.refl w) (fun b h => by cases h)
  have hrows : ∀ j, j = k → RowOk w (E.row k ⟨(E.R k).ver + 1, .sli e 1 false []⟩ none (.slice none 0 0)) G.C j := fun j hj => by
    subst hj
    unfold RowOk
    simp only [Env.row, updF_same]
    exact .inl ⟨trivial, trivial, trivial⟩
  have h := ht.sim hs hrows
  have e1 : ({ s with rw := (E.row k ⟨(E.R k).ver + 1, .sli e 1 false []⟩ none (.slice none 0 0)).R } : St) = s.row k ⟨(s.rw k).ver + 1, .sli e 1 false []⟩ := by
    show ({ s with rw := updF E.R k _ } : St) = _
    rw [hs.rw]; rfl
  rw [e1] at h
  refine ⟨_, h, .own ?_ fun _ _ => ?_⟩
  · simp [Env.row, updF_same, hs.rw]
  · simp [Env.row, updF_same]
theorem OutR.flat [Held] {w' : World} {N e e2 : Nat} {rows : List (List PV)} {v : Value} {lv : List (Value × Option Nat)} (hout : OutR w' (Env.out N (blk lv)) (.tb e e2 rows) v lv) (hn : (blk lv).Nodup) :
    ∃ lv', OutR w' (Env.out N (blk lv')) (.fr e 1 (rows.map fun r => .sl false 1 r)) v lv' ∧ (blk lv').Nodup := by
  cases hout with
  | tbn => exact ⟨_, .nil, by simp [blk]⟩
  | @tb _ _ b n cap _ vs rest lvs hB hh hnn hc hm hl h1 h2 hvv hin =>
    refine ⟨[(.slice (some ⟨b, 0, none⟩) n cap, some b)], .fr hB hh (by omega) hc hm (by omega) ⟨by simp [h1, hnn], fun i a b' => ?_⟩, by simp [blk]⟩
    have hi : i < rows.length := by simpa using a
    have h0 := hin i hi b' (by omega)
    simp only [List.getElem_map]
    have hbl : blk ((Value.slice (some ⟨b, 0, none⟩) n cap, some b) :: lvs) = b :: blk lvs := rfl
    have e1 : blk [(Value.slice (some ⟨b, 0, none⟩) n cap, some b)] = [b] := rfl
    rw [e1]
    rw [hbl] at hn h0
    generalize hri : rows[i] = ri at *
    generalize hvi : vs[i] = vi at *
    generalize hli : lvs[i]'(by omega) = li at *
    cases h0 with
    | nil => exact rep_nil _ _ _ _ _
    | @fr _ _ b2 n2 cap2 _ vs2 rest2 hB2 hh2 hn2 hc2 hm2 hl2 hr2 =>
      have hb2 : b2 ∈ blk lvs := by
        simp only [blk, List.mem_filterMap]
        exact ⟨_, List.getElem_mem (by omega : i < lvs.length), by rw [hli]⟩
      have hne : b2 ≠ b := fun e => (List.nodup_cons.1 hn).1 (e ▸ hb2)
      have hB3 : N ≤ b2 := hB2
      refine .sl (fun j => vs2.getD j undef) (hr2.1.trans hn2) hc2 hm2 (fun j hj => ⟨b2, 0, rfl, ?_, fun hL => ?_, ?_⟩) (fun j hj => ?_)
      · show max N (if false = true then _ else 0) ≤ b2
        simp; exact hB3
      · rcases hL with hL | hL
        · have : b2 < N := hL
          omega
        · exact hne (List.mem_singleton.1 hL)
      · have hj' : j < vs2.length := by rw [← hr2.1]; exact hj
        rw [Nat.zero_add, cell_of_list hh2 (by simp; omega)]
        simp [List.getElem_append_left hj', List.getD, hj']
      · have hj' : j < vs2.length := by rw [← hr2.1]; exact hj
        have e2' : vs2.getD j undef = vs2[j] := by simp [List.getD, hj']
        rw [e2']
        have h3 := hr2.2 j hj hj'
        have h4 : Rep w' (Env.out N [b]).bare.bare N ri[j] vs2[j] := by
          refine Rep.above (E := (Env.out N (b :: blk lvs)).bare) h3 (fun _ => rfl) (fun _ => rfl) rfl rfl fun x hx' hL hL' => ?_
          rcases hL' with hL' | hL'
          · exact hL (.inl hL')
          · exact hL (.inr (by rw [List.mem_singleton.1 hL']; exact List.mem_cons_self))
        refine h4.low ?_
        show max N (if false = true then _ else 0) ≤ N
        simp
section
variable {Q : AX → St → Prop} {s : St} {k e e2 : Nat}
end
end Go.Abs

/- DERIVED by an AI agent. A function that is given a slice of its own and hands back that or another one, with a word whether it did. No program in sight. -/
namespace Go.Abs
set_option linter.unusedSimpArgs false
set_option linter.unusedVariables false
variable {P : Program} {s : St} {K : St → Prop}
end Go.Abs
