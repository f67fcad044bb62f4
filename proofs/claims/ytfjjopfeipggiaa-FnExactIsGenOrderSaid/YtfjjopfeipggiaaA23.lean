/- DERIVED by an AI agent. A region that draws its order, carried out. No program in sight. -/
import Derived.Test.YtfjjopfeipggiaaA22
namespace Go.Abs
set_option linter.unusedSimpArgs false

section
variable {P : Program} {T : Tab} {G : Ghost} {ops : Array Oper}

theorem Yields.congr {s s1 : St} {o : Oper} {p : PV} (h : Yields P G s o p) (hr : s1.rw = s.rw) (he : ∀ x ∈ o.op.operands, s1.ev x = s.ev x) : Yields P G s1 o p :=
  fun E a w hR hw hx K Q hK => h E a w (hR.trans hr) hw (fun x hx' => by rw [← he x hx']; exact hx x hx') K Q hK

theorem count_set : ∀ (l : List Bool) (i : Nat), l[i]? = some false → (l.set i true).count false + 1 = l.count false := by
  intro l
  induction l with
  | nil => intro i h; simp at h
  | cons x xs ih =>
    intro i h
    cases i with
    | zero => simp at h; subst h; simp
    | succ i =>
      have := ih i (by simpa using h)
      simp only [List.set_cons_succ, List.count_cons]
      omega

theorem ev_ready {s s' : St} {tr : List Stp} (ho : Ordered ops) (ht : Tr P G ops ops.toList s tr s') {D : Nat → Bool} (hc : Closed ops D) {i : Nat} {o : Oper} (hi : ops[i]? = some o) (hD : D i = false) (hd : ∀ k ∈ directs o, D k = true) :
    ∀ x ∈ o.op.operands, (stD ops tr s D).ev x = (stAt ops.toList tr s i).ev x := by
  intro x hx
  cases x with
  | tmp t =>
    refine slot_ready ho ht hc hi hD hd ?_
    simp only [names, List.mem_append, List.mem_filterMap]
    exact .inl (.inr ⟨.tmp t, by simpa using hx, rfl⟩)
  | const c => rfl
  | func f => rfl
  | global g => rfl

theorem stD_all {s s' : St} {tr : List Stp} (ht : Tr P G ops ops.toList s tr s') {D : Nat → Bool} (hD : ∀ k, k < ops.size → D k = true) : stD ops tr s D = s' := by
  have hl := ht.last
  rw [← hl]
  unfold stD
  have e1 : slotD ops.toList tr s D = (stAt ops.toList tr s ops.toList.length).sl := by
    funext t
    rw [ht.slots t _ (Nat.le_refl _)]
    unfold slotD
    rw [lastIdx_congr _ _ (fun k => (ops.toList[k]?).bind (·.dst) == some t) fun k hk => by rw [hD k (by simpa using hk)]; simp]
  have e2 : rowsD ops.toList tr s D = (stAt ops.toList tr s ops.toList.length).rw := by
    funext k
    rw [ht.rows k _ (Nat.le_refl _)]
    unfold rowsD
    rw [lastIdx_congr _ _ (turnsAt tr k) fun j hk => by rw [hD j (by simpa using hk)]; simp]
  rw [e1, e2]

theorem mem_ready {listed : Array Bool} {i : Nat} (h : i ∈ Region.ready .any ops listed) : ∃ o, ops[i]? = some o ∧ listed.getD i true = false ∧ ∀ k ∈ directs o, listed.getD k false = true := by
  simp only [Region.ready, List.mem_filter, List.mem_range, Bool.and_eq_true, Bool.not_eq_true'] at h
  obtain ⟨hlt, h1, h2⟩ := h
  have hok : ops[i]? = some ops[i] := Array.getElem?_eq_getElem hlt
  refine ⟨ops[i], hok, h1, fun k hk => ?_⟩
  rw [hok] at h2
  simp only [Option.map_some, Option.getD_some, Array.all_eq_true'] at h2
  simp only [directs, List.mem_map, List.mem_filter] at hk
  obtain ⟨e, ⟨he1, he2⟩, rfl⟩ := hk
  have := h2 e (by simpa using he1)
  simpa [he2] using this

theorem ready_mem {listed : Array Bool} {i : Nat} {o : Oper} (hok : ops[i]? = some o) (h1 : listed.getD i true = false) (h2 : ∀ k ∈ directs o, listed.getD k false = true) : i ∈ Region.ready .any ops listed := by
  have hlt : i < ops.size := (Array.getElem?_eq_some_iff.1 hok).1
  simp only [Region.ready, List.mem_filter, List.mem_range, Bool.and_eq_true, Bool.not_eq_true']
  refine ⟨hlt, h1, ?_⟩
  rw [hok]
  simp only [Option.map_some, Option.getD_some, Array.all_eq_true']
  intro e he
  by_cases hb : Region.binds .any e = true
  · have := h2 e.on (by simp only [directs, List.mem_map, List.mem_filter]; exact ⟨e, ⟨by simpa using he, hb⟩, rfl⟩)
    simp [this]
  · simp [hb]

theorem draw_exec {s s' : St} {tr : List Stp} (ho : Ordered ops) (hln : Lined ops (tr.map (·.e))) (ht : Tr P G ops ops.toList s tr s') (hdst : ∀ o ∈ ops, ∀ d, o.dst = some d → d < G.n) {Q : Exit → Act → World → Prop}
    (hQ : ∀ a w, Sim G s' a w → Q .normal a w) : ∀ (fuel : Nat) (listed : Array Bool) (a : Act) (w : World), listed.size = ops.size → Closed ops (fun k => listed.getD k false) →
      Sim G (stD ops tr s (fun k => listed.getD k false)) a w → listed.toList.count false ≤ fuel → wpAny P .any ops Q fuel listed a w := by
  have done : ∀ (listed : Array Bool) (a : Act) (w : World), listed.size = ops.size → Sim G (stD ops tr s (fun k => listed.getD k false)) a w → Region.ready .any ops listed = [] → Q .normal a w := by
    intro listed a w hsz hs hr
    refine hQ a w ?_
    rw [stD_all ht] at hs
    · exact hs
    · intro k hk
      induction k using Nat.strongRecOn with
      | _ k ih =>
        cases hb : listed.getD k false with
        | true => rfl
        | false =>
          have hok : ops[k]? = some ops[k] := Array.getElem?_eq_getElem hk
          have hmem := ready_mem (listed := listed) hok (by
            rw [Array.getD_eq_getD_getElem?] at hb ⊢
            rw [Array.getElem?_eq_getElem (by omega)] at hb ⊢
            simpa using hb) fun j hj => ih j (ho.low k _ hok j hj) (by have := ho.low k _ hok j hj; omega)
          rw [hr] at hmem
          simp at hmem
  intro fuel
  induction fuel with
  | zero =>
    intro listed a w hsz hc hs hn
    have hall : ∀ k, k < ops.size → listed.getD k true = true := fun k hk => by
      have hz : listed.toList.count false = 0 := by omega
      rw [List.count_eq_zero] at hz
      rw [Array.getD_eq_getD_getElem?, Array.getElem?_eq_getElem (by omega)]
      cases hb : listed[k] with
      | true => rfl
      | false => exact absurd (by rw [← hb]; simp) hz
    have hr : Region.ready .any ops listed = [] := by
      apply List.eq_nil_iff_forall_not_mem.2
      intro i hi
      obtain ⟨o, hok, h1, _⟩ := mem_ready hi
      have := hall i (Array.getElem?_eq_some_iff.1 hok).1
      rw [h1] at this; cases this
    exact ⟨hr, done listed a w hsz hs hr⟩
  | succ fuel ih =>
    intro listed a w hsz hc hs hn
    refine ⟨done listed a w hsz hs, fun i hi => ?_⟩
    obtain ⟨o, hok, h1, hd⟩ := mem_ready hi
    have hlt : i < ops.size := (Array.getElem?_eq_some_iff.1 hok).1
    have hD : listed.getD i false = false := by
      rw [Array.getD_eq_getD_getElem?, Array.getElem?_eq_getElem (by omega)] at h1 ⊢
      simpa using h1
    have hil : i < ops.toList.length := by simpa using hlt
    have hit : i < tr.length := by rw [ht.length]; exact hil
    obtain ⟨hok1, _⟩ := ht.at i hil hit
    have hoi : ops.toList[i] = o := by have := hok; rw [Array.getElem?_eq_getElem hlt] at this; simpa using this
    rw [hoi] at hok1
    have hx : tr[i]? = some tr[i] := List.getElem?_eq_getElem hit
    have hev := ev_ready ho ht hc hok hD hd
    have hrw : ∀ k, k ∈ tr[i].e.rd ∨ tr[i].e.tc.has k = true → (stD ops tr s fun k => listed.getD k false).rw k = (stAt ops.toList tr s i).rw k := fun k hk => rows_ready ho hln ht hc hok hD hd hx hk
    have hdo : ∀ d, o.dst = some d → d < G.n := hdst o (by rw [← hoi]; simp)
    -- the listed set with i
    have hlist : (fun k => (listed.setIfInBounds i true).getD k false) = fun k => listed.getD k false || k == i := by
      funext k
      rw [Array.getD_eq_getD_getElem?, Array.getD_eq_getD_getElem?, Array.getElem?_setIfInBounds]
      by_cases hk : i = k
      · subst hk
        rw [if_pos rfl, if_pos (by omega)]; simp
      · rw [if_neg hk]
        have : (k == i) = false := by simp; exact fun e => hk e.symm
        simp [this]
    have next : ∀ (a' : Act) (w' : World), Sim G (stD ops tr s fun k => listed.getD k false || k == i) a' w' → wpAny P .any ops Q fuel (listed.setIfInBounds i true) a' w' := fun a' w' hs' => by
      refine ih _ a' w' (by simpa using hsz) ?_ (by rw [hlist]; exact hs') ?_
      · rw [hlist]
        intro j oj hj hDj k hk
        simp only [Bool.or_eq_true, beq_iff_eq] at hDj ⊢
        rcases hDj with hDj | rfl
        · exact .inl (hc j oj hj hDj k hk)
        · rw [hok] at hj; cases hj; exact .inl (hd k hk)
      · have := count_set listed.toList i (by
          rw [Array.getElem?_toList, Array.getElem?_eq_getElem (by omega)]
          rw [Array.getD_eq_getD_getElem?, Array.getElem?_eq_getElem (by omega)] at hD
          simpa using hD)
        simp only [Array.toList_setIfInBounds]
        omega
    have hdone := stD_done (tr := tr) (s := s) ho hln hc hok hD hx
    unfold wpOp
    simp only [hok]
    -- the guard
    have hgv : ∀ b, gVal ops (stAt ops.toList tr s i) o = some b → Region.wanted o (yielded ops a.tmps) = b := fun b hg => by
      unfold gVal at hg
      cases hgd : o.guard with
      | none => simp only [hgd] at hg; simp at hg; subst hg; simp [Region.wanted, hgd]
      | some jw =>
        obtain ⟨j, want⟩ := jw
        simp only [hgd] at hg
        split at hg
        · rename_i d hdj
          have hn : d ∈ names ops o := by simp [names, hgd, hdj]
          have hsl := slot_ready ho ht hc hok hD hd hn
          split at hg
          · rename_i bb hbb
            rw [hbb] at hsl
            obtain ⟨E, hsE⟩ := hs
            have hval := hsE.slots d
            have hval' : a.tmps.getD d undef = .bool bb := by
              have hh : (stD ops tr s fun k => listed.getD k false).sl d = .v (.bool bb) := hsl
              rw [hh] at hval; exact hval.v_eq
            have hy : yielded ops a.tmps j = some bb := by
              have hsz' : a.tmps[d]? = some (.bool bb) := by
                rw [Array.getD_eq_getD_getElem?] at hval'
                cases h : a.tmps[d]? with
                | none => rw [h] at hval'; simp [undef] at hval'
                | some x => rw [h] at hval'; simp at hval'; rw [hval']
              simp [yielded, hdj, hsz']
            simp at hg
            simp [Region.wanted, hgd, hy, hg]
          · rename_i cs hbb
            rw [hbb] at hsl
            obtain ⟨E, hsE⟩ := hs
            have hval := hsE.slots d
            have hval' : a.tmps.getD d undef = .tuple cs := by
              have hh : (stD ops tr s fun k => listed.getD k false).sl d = .v (.tuple cs) := hsl
              rw [hh] at hval; exact hval.v_eq
            simp at hg
            subst hg
            simp [Region.wanted, hgd, yielded_tuple hdj hval']
          · cases hg
        · cases hg
    cases hok1 with
    | skip hg hp hr htc =>
      rw [hgv false hg]
      simp only [Bool.false_eq_true, if_false]
      refine next _ _ ?_
      rw [hdone]
      have h0 := put_junk (dst := o.dst) hdo hs
      have e : (stD ops tr s fun k => listed.getD k false).stepIn o tr[i] = (stD ops tr s fun k => listed.getD k false).put o.dst (.v undef) := by
        unfold St.stepIn
        rw [hp, htc]
        simp only [Tc.has, List.contains_nil, Bool.false_eq_true, if_false]
      rw [e]; exact h0
    | step hg hr he =>
      rw [hgv true hg]
      rw [if_pos rfl]
      refine .inl ?_
      refine he (stD ops tr s fun k => listed.getD k false) hrw hev a w hs _ _ fun a' w' hs' => next a' w' ?_
      rw [hdone]
      exact hs'

end
end Go.Abs
