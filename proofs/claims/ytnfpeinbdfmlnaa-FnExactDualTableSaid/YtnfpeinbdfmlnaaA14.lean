/- DERIVED by an AI agent. Functions that are given a table and hand it back longer. No program in sight. -/
import Derived.Test.YtnfpeinbdfmlnaaA13
namespace Go.Abs
set_option linter.unusedSimpArgs false
set_option linter.unusedVariables false

theorem rangeG {n i : Nat} (h : i < n) : (List.range n).getD i 0 = i := by simp [List.getD, h]
/-- A table, its rows by whatever numbers. -/
structure TabU (rw : Nat → Row) (k v e e2 : Nat) (ids : List (Nat × Nat)) (M : Mat) : Prop where
  top : rw k = ⟨v, .tab e (ids.map fun x => .own x.1 x.2)⟩
  len : ids.length = M.length
  row : ∀ i (h : i < ids.length), rw ids[i].1 = ⟨ids[i].2, .sli e2 1 false (iL (M.getD i []))⟩
  nd : (k :: ids.map (·.1)).Nodup
/-- The table that was given, longer. -/
def growPost (e e2 n : Nat) (M' : Mat) (R1 : Nat → Row) (p : PV) : Prop :=
  ∃ (v : Nat) (ids : List (Nat × Nat)), p = .own lent v ∧ TabU R1 lent v e e2 ids M' ∧ n ≤ ids.length ∧ ∀ i (_ : i < n) (h : i < ids.length), ids[i] = (sid lent i, 1)
def AGr (P : Program) (f : FuncId) (args : List PV) (e e2 : Nat) (M M' : Mat) : Prop := AG P f args (inT e e2 (M.map iL)) (growPost e e2 M.length M')

theorem nd_get {l : List Nat} (h : l.Nodup) {i j : Nat} (hi : i < l.length) (hj : j < l.length) (e : l[i] = l[j]) : i = j := (List.getElem_inj (h₀ := hi) (h₁ := hj) h).1 e

section
variable {R1 : Nat → Row} {k v e e2 n : Nat} {ids : List (Nat × Nat)} {M : Mat}
theorem TabU.inj (h : TabU R1 k v e e2 ids M) {i j : Nat} (hi : i < ids.length) (hj : j < ids.length) (he : ids[i].1 = ids[j].1) : i = j :=
  nd_get (List.nodup_cons.1 h.nd).2 (by simpa using hi) (by simpa using hj) (by simpa using he)
theorem TabU.ne (h : TabU R1 k v e e2 ids M) {i : Nat} (hi : i < ids.length) : ids[i].1 ≠ k := fun he =>
  (List.nodup_cons.1 h.nd).1 (List.mem_map.2 ⟨_, List.getElem_mem hi, he⟩)
/-- A table in order. -/
theorem TabG.toU (h : TabG R1 k v e e2 n M) : TabU R1 k v e e2 ((List.range n).map fun j => (sid k j, 1)) M := by
  refine ⟨by rw [h.top]; simp [cellsT], by simp [h.len], fun i hi => ?_, ?_⟩
  · have hi' : i < n := by simpa using hi
    simpa using h.row i hi'
  · refine List.nodup_cons.2 ⟨fun hm => ?_, ?_⟩
    · simp only [List.map_map, List.mem_map] at hm
      obtain ⟨j, _, hj⟩ := hm
      exact sid_ne k j hj
    · rw [List.map_map]
      refine List.Pairwise.map _ (fun a b hab => ?_) List.nodup_range
      exact fun e => hab (sid_inj' e)
/-- One row more. -/
theorem growPost_one {d vd n' : Nat} {r : List Int} {p : PV} {rw : Nat → Row} (h : TabG rw lent v e e2 n' M) (hn : n ≤ n') {v' : Nat} (hp : p = .own lent v') (h1 : R1 lent = ⟨v', .tab e (cellsT lent (List.range n') ++ [.own d vd])⟩) (h2 : R1 d = ⟨vd, .sli e2 1 false (iL r)⟩) (h3 : ∀ j, R1 (sid lent j) = rw (sid lent j)) (hd : d < lent) :
    growPost e e2 n (M ++ [r]) R1 p := by
  refine ⟨v', ((List.range n').map fun j => (sid lent j, 1)) ++ [(d, vd)], hp, ⟨?_, by simp [h.len], fun i hi => ?_, ?_⟩, by simp; omega, fun i hi hi' => ?_⟩
  · rw [h1]; simp [cellsT]
  · by_cases hc : i < n'
    · rw [List.getElem_append_left (by simpa using hc)]
      have e1 : (M ++ [r]).getD i [] = M.getD i [] := by rw [snoc_getD, if_pos (by rw [h.len]; exact hc)]
      simp only [List.getElem_map, List.getElem_range, e1, h3]
      exact h.row i hc
    · have : i = n' := by simp at hi; omega
      subst this
      rw [List.getElem_append_right (by simp)]
      have e1 : (M ++ [r]).getD i [] = r := by rw [snoc_getD, if_neg (by rw [h.len]; omega), if_pos h.len.symm]
      simp only [List.length_map, List.length_range, Nat.sub_self, List.getElem_cons_zero, h2, e1]
  · have hu := h.toU.nd
    rw [List.map_append]
    refine List.nodup_cons.2 ⟨fun hm => ?_, ?_⟩
    · rcases List.mem_append.1 hm with hm | hm
      · exact (List.nodup_cons.1 hu).1 hm
      · simp at hm; omega
    · refine List.nodup_append.2 ⟨(List.nodup_cons.1 hu).2, by simp, fun a ha b hb hab => ?_⟩
      simp at hb
      simp only [List.map_map, List.mem_map] at ha
      obtain ⟨j, _, hj⟩ := ha
      have := (sid_gt j).1
      simp at hj
      omega
  · rw [List.getElem_append_left (by simp; omega)]
    simp
theorem grow_one {d vd n' : Nat} {r : List Int} {p : PV} {rw : Nat → Row} (h : TabG rw 1000000 v e e2 n' M) (hn : n ≤ n') {v' : Nat} (hp : p = .own 1000000 v') (h1 : R1 1000000 = ⟨v', .tab e (cellsT 1000000 (List.range n') ++ [.own d vd])⟩) (h2 : R1 d = ⟨vd, .sli e2 1 false (iL r)⟩) (h3 : ∀ j, R1 (sid 1000000 j) = rw (sid 1000000 j)) (hd : d < 1000000) :
    growPost e e2 n (M ++ [r]) R1 p := growPost_one (rw := rw) h hn hp h1 h2 h3 hd
theorem growPost_same {n' : Nat} {p : PV} (h : TabG R1 lent v e e2 n' M) (hn : n ≤ n') (hp : p = .own lent v) : growPost e e2 n M R1 p :=
  ⟨v, _, hp, h.toU, by simp; exact hn, fun i hi hi' => by simp⟩

theorem grow_same {n' : Nat} {p : PV} (h : TabG R1 1000000 v e e2 n' M) (hn : n ≤ n') (hp : p = .own 1000000 v) : growPost e e2 n M R1 p := growPost_same h hn hp
/-- The caller's numbers of what the callee is given. -/
def rhoK (k n j : Nat) : Option Nat := if j = lent then some k else if lent < j ∧ (j - lent) % 1000 = 0 ∧ (j - lent) / 1000 - 1 < n then some (sid k ((j - lent) / 1000 - 1)) else none
theorem rhoK_top (k n : Nat) : rhoK k n lent = some k := by unfold rhoK; rw [if_pos rfl]
theorem rhoK_row (k : Nat) {n i : Nat} (h : i < n) : rhoK k n (sid lent i) = some (sid k i) := by
  obtain ⟨h1, h2, h3⟩ := sid_gt i
  unfold rhoK; rw [if_neg (by omega), if_pos ⟨h1, h2, by omega⟩, h3]
theorem rhoK_some {k n j i : Nat} (h : rhoK k n j = some i) : (j = lent ∧ i = k) ∨ ∃ x, x < n ∧ j = sid lent x ∧ i = sid k x := by
  unfold rhoK at h
  split at h
  · cases h; exact .inl ⟨‹_›, rfl⟩
  · split at h
    · rename_i h2
      cases h
      exact .inr ⟨_, h2.2.2, by rw [sid_eq]; omega, rfl⟩
    · cases h

theorem gv_top {e e2 k n v : Nat} {rows : List (List PV)} {Ln : Nat → Prop} {R : Nat → Row} (h : (R k).ver = v) : GvA (rhoK k n) Ln (inT e e2 rows) R (.own 1000000 1) (.own k v) :=
  .own (rhoK_top k n) (by show (inT e e2 rows lent).ver = 1; rw [inT_top]) h (by show (inT e e2 rows lent).kind.slice = true; rw [inT_top]; rfl)
/-- The table to be given: in order; or, as long as it has no row, a slice. -/
structure TabH (rw : Nat → Row) (k v e e2 n : Nat) (M : Mat) : Prop where
  top : rw k = ⟨v, .tab e (cellsT k (List.range n))⟩ ∨ (n = 0 ∧ rw k = ⟨v, .sli e 1 false []⟩)
  len : M.length = n
  row : ∀ j, j < n → rw (sid k j) = ⟨1, .sli e2 1 false (iL (M.getD j []))⟩
  rest : ∀ j, n ≤ j → rw (sid k j) = ⟨0, .dead⟩
theorem TabG.toH {rw : Nat → Row} (h : TabG rw k v e e2 n M) : TabH rw k v e e2 n M := ⟨.inl h.top, h.len, h.row, h.rest⟩
theorem TabH.ver {rw : Nat → Row} (h : TabH rw k v e e2 n M) : (rw k).ver = v := by rcases h.top with h | ⟨_, h⟩ <;> rw [h]
theorem TabH.give {rw : Nat → Row} {Ln : Nat → Prop} (h : TabH rw k v e e2 M.length M) (hl : ∀ j, Ln j → (j % 1000 == k % 1000) = false) : Give (rhoK k M.length) Ln (inT e e2 (M.map iL)) rw := by
  have hlm : (M.map iL).length = M.length := List.length_map _
  have hcells : ∀ l : List Nat, (∀ j ∈ l, j < M.length) → GvL (rhoK k M.length) Ln (inT e e2 (M.map iL)) rw (cellsT lent l) (cellsT k l) := by
    intro l
    induction l with
    | nil => intro _; exact .nil
    | cons j l ih =>
      intro hj
      have h1 := hj j (by simp)
      refine .one (.own (rhoK_row k h1) ?_ ?_ ?_) (ih fun x hx => hj x (by simp [hx]))
      · rw [inT_row (by rw [hlm]; exact h1)]
      · rw [h.row j h1]
      · rw [inT_row (by rw [hlm]; exact h1)]; rfl
  refine ⟨fun j hj => ?_, fun j j' i n1 n2 h1 h2 => ?_, fun j i hj hr hln => ?_⟩
  · rcases inT_nd hj with rfl | ⟨i, hi, rfl⟩
    · refine ⟨Nat.le_refl _, by rw [inT_top]; exact Nat.one_pos, k, rhoK_top _ _, ?_⟩
      rw [inT_top, hlm]
      rcases h.top with ht | ⟨h0, ht⟩
      · rw [ht]
        exact ⟨rfl, hcells _ fun j hj => List.mem_range.1 hj⟩
      · rw [ht]
        exact ⟨rfl, rfl, by rw [h0]; rfl, rfl⟩
    · rw [hlm] at hi
      refine ⟨Nat.le_of_lt (sid_gt i).1, by rw [inT_row (by rw [hlm]; exact hi)]; exact Nat.one_pos, _, rhoK_row k hi, ?_⟩
      rw [inT_row (by rw [hlm]; exact hi), h.row i hi, mapI_getD]
      exact ⟨rfl, rfl, rfl, plain_iL _⟩
  · rcases rhoK_some h1 with ⟨a1, a2⟩ | ⟨x, _, a1, a2⟩ <;> rcases rhoK_some h2 with ⟨b1, b2⟩ | ⟨y, _, b1, b2⟩
    · rw [a1, b1]
    · rw [a2] at b2; exact absurd b2.symm (sid_ne k y)
    · rw [a2] at b2; exact absurd b2 (sid_ne k x)
    · rw [a2] at b2; have := sid_inj' b2; subst this; rw [a1, b1]
  · have hm := beq_eq_false_iff_ne.1 (hl i hln)
    rcases rhoK_some hr with ⟨_, rfl⟩ | ⟨x, _, _, rfl⟩
    · exact hm rfl
    · exact hm (sid_mod _ _)
end

/-- A call that is given a table and hands it back longer. -/
theorem askGrow_of {P : Program} {s : St} {K : St → Prop} {f : FuncId} {args raw lents : List PV} {Ka : RV → Prop} {d k v e e2 : Nat} {us : Dm s} {u : Dm K} {M M' : Mat} (h : AGr P f args e e2 M M') (Ln : Nat → Prop)
    (hl : GvL (rhoK k M.length) Ln (inT e e2 (M.map iL)) s.rw args raw) (ht : TabH s.rw k v e e2 M.length M) (hln : ∀ j, Ln j → (j % 1000 == k % 1000) = false)
    (hk : ∀ (S : St) (v' : Nat), v ≤ v' → TabG S.rw k v' e e2 M'.length M' → S.sl d = .own k v' → (∀ t, t ≠ d → S.sl t = s.sl t) → (∀ j, (j % 1000 == k % 1000) = false → S.rw j = s.rw j) → K S) :
    askK P f lents Ka (askR P f lents raw (some d) (kk s us) (kk K u)) := by
  refine askG_of h _ Ln hl (ht.give hln) fun R1 p ⟨v1, ids, hp, hu, hn, hids⟩ => ?_
  subst hp
  have hlm : (M.map iL).length = M.length := List.length_map _
  -- the numbers behind the call
  let rho1 : Nat → Option Nat := fun j => if j = lent then some k else (ids.findIdx? (fun x => x.1 == j)).map (sid k)
  have top1 : rho1 lent = some k := if_pos rfl
  have row1 : ∀ i (hi : i < ids.length), rho1 ids[i].1 = some (sid k i) := fun i hi => by
    have hf : ids.findIdx? (fun x => x.1 == ids[i].1) = some i := by
      rw [List.findIdx?_eq_some_iff_getElem]
      refine ⟨hi, by simp, fun j hj => ?_⟩
      simp only [beq_iff_eq]
      intro he
      have := hu.inj (by omega) hi he
      omega
    show (if ids[i].1 = lent then _ else _) = _
    rw [if_neg (hu.ne hi), hf]; rfl
  have some1 : ∀ j x, rho1 j = some x → (j = lent ∧ x = k) ∨ ∃ i, ∃ hi : i < ids.length, j = ids[i].1 ∧ x = sid k i := fun j x hx => by
    have hx : (if j = lent then some k else (ids.findIdx? (fun x => x.1 == j)).map (sid k)) = some x := hx
    split at hx
    · cases hx; exact .inl ⟨‹_›, rfl⟩
    · cases hf : ids.findIdx? (fun x => x.1 == j) with
      | none => rw [hf] at hx; cases hx
      | some i =>
        rw [hf] at hx; cases hx
        rw [List.findIdx?_eq_some_iff_getElem] at hf
        obtain ⟨hi, h1, _⟩ := hf
        exact .inr ⟨i, hi, (beq_iff_eq.1 h1).symm, rfl⟩
  have given : ∀ i (hi : i < ids.length), i < M.length → ids[i].1 = sid lent i := fun i hi h => by rw [hids i h hi]
  let nv : Nat → Nat := fun j => if j = lent then (if v1 = 1 then v else v + 1) else 1
  have nvt : nv lent = if v1 = 1 then v else v + 1 := if_pos rfl
  have nvr : ∀ i (hi : i < ids.length), nv ids[i].1 = 1 := fun i hi => if_neg (hu.ne hi)
  refine ⟨rho1, nv, false, ⟨fun j hj => ?_, fun j j' x h1 h2 => ?_, fun j x hx hn1 hv => ?_, fun j x hx hn1 => ?_, fun h => by cases h⟩, fun S hS => ?_⟩
  · rcases inT_nd hj with rfl | ⟨i, hi, rfl⟩
    · rw [top1, rhoK_top]
    · rw [hlm] at hi
      have hi' : i < ids.length := by omega
      rw [rhoK_row k hi, ← given i hi' hi, row1 i hi']
  · rcases some1 j x h1 with ⟨a1, a2⟩ | ⟨i, hi, a1, a2⟩ <;> rcases some1 j' x h2 with ⟨b1, b2⟩ | ⟨i', hi', b1, b2⟩
    · rw [a1, b1]
    · rw [a2] at b2; exact absurd b2.symm (sid_ne k i')
    · rw [a2] at b2; exact absurd b2 (sid_ne k i)
    · rw [a2] at b2; have := sid_inj' b2; subst this; rw [a1, b1]
  · rcases some1 j x hx with ⟨rfl, rfl⟩ | ⟨i, hi, rfl, rfl⟩
    · rw [hu.top, inT_top] at hv
      have hv : v1 = 1 := hv
      rw [nvt, if_pos hv, ht.ver]
    · rw [nvr i hi]
      have : i < M.length := by
        rcases inT_nd hn1 with h | ⟨i', hi', h⟩
        · exact absurd h (hu.ne hi)
        · rw [hlm] at hi'
          have hi2 : i' < ids.length := by omega
          rw [← given i' hi2 hi'] at h
          have := hu.inj hi hi2 h
          omega
      rw [ht.row i this]
  · rcases some1 j x hx with ⟨rfl, rfl⟩ | ⟨i, hi, rfl, rfl⟩
    · have hv := hn1 (by rw [inT_top]; rfl)
      rw [hu.top, inT_top] at hv
      have hv : ¬ v1 = 1 := hv
      rw [nvt, if_neg hv, ht.ver]; omega
    · rw [nvr i hi]
      by_cases him : i < M.length
      · have h2 := hids i him hi
        have hv := hn1 (by rw [h2, inT_row (by rw [hlm]; exact him)]; rfl)
        rw [hu.row i hi, h2, inT_row (by rw [hlm]; exact him)] at hv
        exact absurd rfl hv
      · rw [ht.rest i (by omega)]; exact Nat.one_pos
  · have hren : ∀ x ∈ ids, ∀ (i : Nat) (hi : i < ids.length), ids[i] = x → ren1 rho1 R1 nv false (.own x.1 x.2) = .own (sid k i) 1 := fun x _ i hi he => by
      subst he
      have := renA_own rho1 R1 nv false ids[i].1 ids[i].2
      rw [row1 i hi, hu.row i hi] at this
      simp only [beq_self_eq_true, nvr i hi] at this
      exact this
    have hcell : (ids.map fun x => PV.own x.1 x.2).map (ren1 rho1 R1 nv false) = cellsT k (List.range M'.length) := by
      refine List.ext_getElem (by simp [cellsT, hu.len]) fun i a b => ?_
      have hi : i < ids.length := by simpa using a
      simp only [List.getElem_map, cellsT, List.getElem_range]
      exact hren _ (List.getElem_mem hi) i hi rfl
    refine hk S (nv lent) (by rw [nvt]; split <;> omega) ⟨?_, rfl, fun j hj => ?_, fun j hj => ?_⟩ ?_ (fun t ht' => ?_) fun j hj => ?_
    · rw [hS.row lent k top1, hu.top]
      show (⟨nv lent, .tab e _⟩ : Row) = _
      rw [hcell]
    · have hj' : j < ids.length := by rw [hu.len]; exact hj
      rw [hS.row _ _ (row1 j hj'), hu.row j hj', nvr j hj']; rfl
    · rw [hS.off _ fun j' hx => ?_]
      · exact ht.rest j (by rw [← hu.len] at hj; omega)
      · rcases some1 j' _ hx with ⟨_, h2⟩ | ⟨i, hi, _, h2⟩
        · exact sid_ne k j h2
        · have := sid_inj' h2; rw [hu.len] at hi; omega
    · rw [hS.sl]
      show (s.put (some d) _).sl d = _
      rw [put_sl_same]
      have := renA_own rho1 R1 nv false lent v1
      rw [top1, hu.top] at this
      simp only [beq_self_eq_true] at this
      exact this
    · rw [hS.sl, put_sl_ne _ _ _ _ ht']
    · have hm := beq_eq_false_iff_ne.1 hj
      refine hS.off j fun j' hx => hm ?_
      rcases some1 j' _ hx with ⟨_, rfl⟩ | ⟨i, hi, _, rfl⟩
      · rfl
      · exact sid_mod _ _

/-- A new table, or a struct of one. -/
def newPost (wrap : PV → PV) (e e2 : Nat) (M : Mat) (R1 : Nat → Row) (p : PV) : Prop := ∃ (k v : Nat) (ids : List (Nat × Nat)), p = wrap (.own k v) ∧ TabU R1 k v e e2 ids M
def ANw (P : Program) (f : FuncId) (args : List PV) (wrap : PV → PV) (e e2 : Nat) (M : Mat) : Prop := AG P f args (fun _ => ⟨0, .dead⟩) (newPost wrap e e2 M)
def wrapI (p : PV) : PV := p
def wrapA (p : PV) : PV := .ag [p]
theorem askNew_of {P : Program} {s : St} {K : St → Prop} {f : FuncId} {args raw lents : List PV} {Ka : RV → Prop} {d e e2 : Nat} {us : Dm s} {u : Dm K} {wrap : PV → PV} {M : Mat} (h : ANw P f args wrap e e2 M) (hw : wrap = wrapI ∨ wrap = wrapA)
    (hl : GvL (fun _ => none) (fun _ => False) (fun _ => ⟨0, .dead⟩) s.rw args raw) (hd : ∀ i, i < M.length → (s.rw (sid d i)).ver = 0)
    (hk : ∀ S : St, TabI S.rw d ((s.rw d).ver + 1) e e2 (List.range M.length) M → S.sl d = wrap (.own d ((s.rw d).ver + 1)) → (∀ t, t ≠ d → S.sl t = s.sl t) → (∀ j, (j % 1000 == d % 1000) = false → S.rw j = s.rw j) → K S) :
    askK P f lents Ka (askR P f lents raw (some d) (kk s us) (kk K u)) := by
  refine askG_of h _ _ hl ⟨fun j hj => (by cases hj), fun _ _ _ hj => (by cases hj), fun _ _ hj => (by cases hj)⟩ fun R1 p ⟨k, v1, ids, hp, hu⟩ => ?_
  subst hp
  let rho1 : Nat → Option Nat := fun j => if j = k then some d else (ids.findIdx? (fun x => x.1 == j)).map (sid d)
  have top1 : rho1 k = some d := if_pos rfl
  have row1 : ∀ i (hi : i < ids.length), rho1 ids[i].1 = some (sid d i) := fun i hi => by
    have hf : ids.findIdx? (fun x => x.1 == ids[i].1) = some i := by
      rw [List.findIdx?_eq_some_iff_getElem]
      refine ⟨hi, by simp, fun j hj => ?_⟩
      simp only [beq_iff_eq]
      intro he
      have := hu.inj (by omega) hi he
      omega
    show (if ids[i].1 = k then _ else _) = _
    rw [if_neg (hu.ne hi), hf]; rfl
  have some1 : ∀ j x, rho1 j = some x → (j = k ∧ x = d) ∨ ∃ i, ∃ hi : i < ids.length, j = ids[i].1 ∧ x = sid d i := fun j x hx => by
    have hx : (if j = k then some d else (ids.findIdx? (fun x => x.1 == j)).map (sid d)) = some x := hx
    split at hx
    · cases hx; exact .inl ⟨‹_›, rfl⟩
    · cases hf : ids.findIdx? (fun x => x.1 == j) with
      | none => rw [hf] at hx; cases hx
      | some i =>
        rw [hf] at hx; cases hx
        rw [List.findIdx?_eq_some_iff_getElem] at hf
        obtain ⟨hi, h1, _⟩ := hf
        exact .inr ⟨i, hi, (beq_iff_eq.1 h1).symm, rfl⟩
  let nv : Nat → Nat := fun j => if j = k then (s.rw d).ver + 1 else 1
  have nvt : nv k = (s.rw d).ver + 1 := if_pos rfl
  have nvr : ∀ i (hi : i < ids.length), nv ids[i].1 = 1 := fun i hi => if_neg (hu.ne hi)
  refine ⟨rho1, nv, true, ⟨fun j hj => (by cases hj), fun j j' x h1 h2 => ?_, fun j x hx hn1 hv => (by cases hn1), fun j x hx hn1 => ?_, fun _ _ h => h⟩, fun S hS => ?_⟩
  · rcases some1 j x h1 with ⟨a1, a2⟩ | ⟨i, hi, a1, a2⟩ <;> rcases some1 j' x h2 with ⟨b1, b2⟩ | ⟨i', hi', b1, b2⟩
    · rw [a1, b1]
    · rw [a2] at b2; exact absurd b2.symm (sid_ne d i')
    · rw [a2] at b2; exact absurd b2 (sid_ne d i)
    · rw [a2] at b2; have := sid_inj' b2; subst this; rw [a1, b1]
  · rcases some1 j x hx with ⟨rfl, rfl⟩ | ⟨i, hi, rfl, rfl⟩
    · rw [nvt]; omega
    · rw [nvr i hi, hd i (by rw [← hu.len]; exact hi)]; exact Nat.one_pos
  · have hown : ren1 rho1 R1 nv true (.own k v1) = .own d (nv k) := by
      have := renA_own rho1 R1 nv true k v1
      rw [top1, hu.top] at this
      simp only [beq_self_eq_true] at this
      exact this
    have hcell : (ids.map fun x => PV.own x.1 x.2).map (ren1 rho1 R1 nv true) = cellsT d (List.range M.length) := by
      refine List.ext_getElem (by simp [cellsT, hu.len]) fun i a b => ?_
      have hi : i < ids.length := by simpa using a
      simp only [List.getElem_map, cellsT, List.getElem_range]
      have := renA_own rho1 R1 nv true ids[i].1 ids[i].2
      rw [row1 i hi, hu.row i hi] at this
      simp only [beq_self_eq_true, nvr i hi] at this
      exact this
    refine hk S ⟨⟨?_, by simp, fun j hj => ?_⟩, List.nodup_range⟩ ?_ (fun t ht' => ?_) fun j hj => ?_
    · rw [hS.row k d top1, hu.top, nvt]
      show (⟨_, .tab e _⟩ : Row) = _
      rw [hcell]
    · have hj1 : j < M.length := by simpa using hj
      have hj' : j < ids.length := by rw [hu.len]; exact hj1
      rw [rangeG hj1, mapI_getD, hS.row _ _ (row1 j hj'), hu.row j hj', nvr j hj']; rfl
    · rw [hS.sl]
      show (s.put (some d) _).sl d = _
      rw [put_sl_same]
      rw [← nvt]
      rcases hw with rfl | rfl
      · exact hown
      · show PV.ag [renA rho1 R1 nv true (.own k v1)] = _
        exact congrArg (fun q => PV.ag [q]) hown
    · rw [hS.sl, put_sl_ne _ _ _ _ ht']
    · have hm := beq_eq_false_iff_ne.1 hj
      refine hS.off j fun j' hx => hm ?_
      rcases some1 j' _ hx with ⟨_, rfl⟩ | ⟨i, hi, _, rfl⟩
      · rfl
      · exact sid_mod _ _
theorem newPost_of {R1 : Nat → Row} {wrap : PV → PV} {e e2 k v : Nat} {q : List Nat} {M : Mat} {p : PV} (h : TabI R1 k v e e2 q M) (hp : p = wrap (.own k v)) : newPost wrap e e2 M R1 p := by
  refine ⟨k, v, q.map fun j => (sid k j, 1), hp, ⟨by rw [h.top]; simp [cellsT], by simp [h.len], fun i hi => ?_, ?_⟩⟩
  · have hi' : i < q.length := by simpa using hi
    have := h.row (i := i) (by rw [← h.len]; exact hi')
    have e1 : q.getD i 0 = q[i] := by simp [List.getD, hi']
    rw [e1] at this
    simpa using this
  · refine List.nodup_cons.2 ⟨fun hm => ?_, ?_⟩
    · simp only [List.map_map, List.mem_map] at hm
      obtain ⟨j, _, hj⟩ := hm
      exact sid_ne k j hj
    · rw [List.map_map]
      refine List.Pairwise.map _ (fun a b hab => ?_) h.nd
      exact fun e => hab (sid_inj' e)
theorem newPost_nil {R1 : Nat → Row} {wrap : PV → PV} {e e2 k v : Nat} {p : PV} (h : R1 k = ⟨v, .tab e []⟩) (hp : p = wrap (.own k v)) : newPost wrap e e2 [] R1 p :=
  ⟨k, v, [], hp, ⟨h, rfl, fun i hi => absurd hi (by simp), by simp⟩⟩
/-- Such a function's contract, from its text. -/
theorem ANw.go {P : Program} {T : Tab} {f : FuncId} {fn : Func} {c : Code} {rs : List ResultVar} {args : List PV} {wrap : PV → PV} {e e2 : Nat} {M : Mat} (hT : T.Ok P) (hm : P.follows .mixedOrders = true) (hf : P.funcs[f]? = some fn) (hname : (fn.name == "runtime.NumGoroutine") = false)
    (hb : fn.body = some c) (hr : fn.results.toList = rs) (hfit : (fits fn.ntmps c && decide (args.length ≤ fn.ntmps) && decide (fn.results.toList.length ≤ 4)) = true)
    (h : lens args → ∀ s : St, (∀ i, s.sl i = args.getD i .junk) → (∀ j, s.rw j = ⟨0, .dead⟩) → cwp P T c (endG T rs (newPost wrap e e2 M)) s) : ANw P f args wrap e e2 M :=
  AG.go hT hm hf hname hb hr hfit fun h1 h2 s hs hrw => h h1 s hs hrw

/-- Such a function's contract, from its text. -/
theorem AGr.go {P : Program} {T : Tab} {f : FuncId} {fn : Func} {c : Code} {rs : List ResultVar} {args : List PV} {e e2 : Nat} {M M' : Mat} (hT : T.Ok P) (hm : P.follows .mixedOrders = true) (hf : P.funcs[f]? = some fn) (hname : (fn.name == "runtime.NumGoroutine") = false)
    (hb : fn.body = some c) (hr : fn.results.toList = rs) (hfit : (fits fn.ntmps c && decide (args.length ≤ fn.ntmps) && decide (fn.results.toList.length ≤ 4)) = true)
    (h : lens args → M.length ≤ 9223372036854775807 → ∀ s : St, (∀ i, s.sl i = args.getD i .junk) → (∀ j, j < 1000000 → s.rw j = ⟨0, .dead⟩) → TabG s.rw 1000000 1 e e2 M.length M → cwp P T c (endG T rs (growPost e e2 M.length M')) s) : AGr P f args e e2 M M' := by
  have hlm : (M.map iL).length = M.length := List.length_map _
  refine AG.go hT hm hf hname hb hr hfit fun h1 h2 s hs hrw => h h1 ?_ s hs (fun j hj => ?_) ⟨?_, rfl, fun j hj => ?_, fun j hj => ?_⟩
  · have := h2 lent
    rw [inT_top] at this
    have : (cellsT lent (List.range (M.map iL).length)).length ≤ 9223372036854775807 := this
    rwa [cellsT_length, List.length_range, hlm] at this
  · rw [hrw, inT_lo (by unfold lent; exact hj)]
  · rw [hrw]
    have := inT_top (e := e) (e2 := e2) (rows := M.map iL)
    rw [hlm] at this
    exact this
  · rw [hrw]
    have := inT_row (e := e) (e2 := e2) (rows := M.map iL) (i := j) (by rw [hlm]; exact hj)
    rw [mapI_getD] at this
    exact this
  · rw [hrw]
    by_cases hn : (inT e e2 (M.map iL) (sid lent j)).kind.nd = true
    · rcases inT_nd hn with h | ⟨i, hi, h⟩
      · exact absurd h (sid_ne _ _)
      · have := sid_inj' h; rw [hlm] at hi; omega
    · show inT e e2 (M.map iL) (sid lent j) = _
      unfold inT at hn ⊢
      split
      · rename_i h; exact absurd h (sid_ne _ _)
      · split
        · rename_i h1 h2; rw [if_neg h1, if_pos h2] at hn; exact absurd rfl hn
        · rfl
end Go.Abs
