/- DERIVED by an AI agent. -/
import Derived.Test.YtlapkhmehcnjeaaA5
/- DERIVED by an AI agent. A region that draws its order, carried out. No program in sight. -/
namespace Go.Abs
set_option linter.unusedSimpArgs false

section
variable {P : Program} {T : Tab} {G : Ghost} {ops : Array Oper}

theorem Yields.congr {s s1 : St} {o : Oper} {p : PV} (h : Yields P G s o p) (hr : s1.rw = s.rw) (he : ∀ x ∈ o.op.operands, s1.ev x = s.ev x) : Yields P G s1 o p :=
  fun E a w hR hw hx K Q hK => h E a w (hR.trans hr) hw (fun x hx' => by rw [← he x hx']; exact hx x hx') K Q hK

theorem count_set : ∀ (l : List Bool) (i : Nat), l[i]? = some false → (l.set i true).count false + 1 = l.count false := by
  intro l
  induction l with
  | nil => intro i h; simp at h
  | cons x xs ih =>
    intro i h
    cases i with
    | zero => simp at h; subst h; simp
    | succ i =>
      have := ih i (by simpa using h)
      simp only [List.set_cons_succ, List.count_cons]
      omega

theorem ev_ready {s s' : St} {tr : List Stp} (ho : Ordered ops) (ht : Tr P G ops ops.toList s tr s') {D : Nat → Bool} (hc : Closed ops D) {i : Nat} {o : Oper} (hi : ops[i]? = some o) (hD : D i = false) (hd : ∀ k ∈ directs o, D k = true) :
    ∀ x ∈ o.op.operands, (stD ops tr s D).ev x = (stAt ops.toList tr s i).ev x := by
  intro x hx
  cases x with
  | tmp t =>
    refine slot_ready ho ht hc hi hD hd ?_
    simp only [names, List.mem_append, List.mem_filterMap]
    exact .inl (.inr ⟨.tmp t, by simpa using hx, rfl⟩)
  | const c => rfl
  | func f => rfl
  | global g => rfl

theorem stD_all {s s' : St} {tr : List Stp} (ht : Tr P G ops ops.toList s tr s') {D : Nat → Bool} (hD : ∀ k, k < ops.size → D k = true) : stD ops tr s D = s' := by
  have hl := ht.last
  rw [← hl]
  unfold stD
  have e1 : slotD ops.toList tr s D = (stAt ops.toList tr s ops.toList.length).sl := by
    funext t
    rw [ht.slots t _ (Nat.le_refl _)]
    unfold slotD
    rw [lastIdx_congr _ _ (fun k => (ops.toList[k]?).bind (·.dst) == some t) fun k hk => by rw [hD k (by simpa using hk)]; simp]
  have e2 : rowsD ops.toList tr s D = (stAt ops.toList tr s ops.toList.length).rw := by
    funext k
    rw [ht.rows k _ (Nat.le_refl _)]
    unfold rowsD
    rw [lastIdx_congr _ _ (turnsAt tr k) fun j hk => by rw [hD j (by simpa using hk)]; simp]
  rw [e1, e2]

theorem mem_ready {listed : Array Bool} {i : Nat} (h : i ∈ Region.ready .any ops listed) : ∃ o, ops[i]? = some o ∧ listed.getD i true = false ∧ ∀ k ∈ directs o, listed.getD k false = true := by
  simp only [Region.ready, List.mem_filter, List.mem_range, Bool.and_eq_true, Bool.not_eq_true'] at h
  obtain ⟨hlt, h1, h2⟩ := h
  have hok : ops[i]? = some ops[i] := Array.getElem?_eq_getElem hlt
  refine ⟨ops[i], hok, h1, fun k hk => ?_⟩
  rw [hok] at h2
  simp only [Option.map_some, Option.getD_some, Array.all_eq_true'] at h2
  simp only [directs, List.mem_map, List.mem_filter] at hk
  obtain ⟨e, ⟨he1, he2⟩, rfl⟩ := hk
  have := h2 e (by simpa using he1)
  simpa [he2] using this

theorem ready_mem {listed : Array Bool} {i : Nat} {o : Oper} (hok : ops[i]? = some o) (h1 : listed.getD i true = false) (h2 : ∀ k ∈ directs o, listed.getD k false = true) : i ∈ Region.ready .any ops listed := by
  have hlt : i < ops.size := (Array.getElem?_eq_some_iff.1 hok).1
  simp only [Region.ready, List.mem_filter, List.mem_range, Bool.and_eq_true, Bool.not_eq_true']
  refine ⟨hlt, h1, ?_⟩
  rw [hok]
  simp only [Option.map_some, Option.getD_some, Array.all_eq_true']
  intro e he
  by_cases hb : Region.binds .any e = true
  · have := h2 e.on (by simp only [directs, List.mem_map, List.mem_filter]; exact ⟨e, ⟨by simpa using he, hb⟩, rfl⟩)
    simp [this]
  · simp [hb]

theorem draw_exec {s s' : St} {tr : List Stp} (ho : Ordered ops) (hln : Lined ops (tr.map (·.e))) (ht : Tr P G ops ops.toList s tr s') (hdst : ∀ o ∈ ops, ∀ d, o.dst = some d → d < G.n) {Q : Exit → Act → World → Prop}
    (hQ : ∀ a w, Sim G s' a w → Q .normal a w) : ∀ (fuel : Nat) (listed : Array Bool) (a : Act) (w : World), listed.size = ops.size → Closed ops (fun k => listed.getD k false) →
      Sim G (stD ops tr s (fun k => listed.getD k false)) a w → listed.toList.count false ≤ fuel → wpAny P .any ops Q fuel listed a w := by
  have done : ∀ (listed : Array Bool) (a : Act) (w : World), listed.size = ops.size → Sim G (stD ops tr s (fun k => listed.getD k false)) a w → Region.ready .any ops listed = [] → Q .normal a w := by
    intro listed a w hsz hs hr
    refine hQ a w ?_
    rw [stD_all ht] at hs
    · exact hs
    · intro k hk
      induction k using Nat.strongRecOn with
      | _ k ih =>
        cases hb : listed.getD k false with
        | true => rfl
        | false =>
          have hok : ops[k]? = some ops[k] := Array.getElem?_eq_getElem hk
          have hmem := ready_mem (listed := listed) hok (by
            rw [Array.getD_eq_getD_getElem?] at hb ⊢
            rw [Array.getElem?_eq_getElem (by omega)] at hb ⊢
            simpa using hb) fun j hj => ih j (ho.low k _ hok j hj) (by have := ho.low k _ hok j hj; omega)
          rw [hr] at hmem
          simp at hmem
  intro fuel
  induction fuel with
  | zero =>
    intro listed a w hsz hc hs hn
    have hall : ∀ k, k < ops.size → listed.getD k true = true := fun k hk => by
      have hz : listed.toList.count false = 0 := by omega
      rw [List.count_eq_zero] at hz
      rw [Array.getD_eq_getD_getElem?, Array.getElem?_eq_getElem (by omega)]
      cases hb : listed[k] with
      | true => rfl
      | false => exact absurd (by rw [← hb]; simp) hz
    have hr : Region.ready .any ops listed = [] := by
      apply List.eq_nil_iff_forall_not_mem.2
      intro i hi
      obtain ⟨o, hok, h1, _⟩ := mem_ready hi
      have := hall i (Array.getElem?_eq_some_iff.1 hok).1
      rw [h1] at this; cases this
    exact ⟨hr, done listed a w hsz hs hr⟩
  | succ fuel ih =>
    intro listed a w hsz hc hs hn
    refine ⟨done listed a w hsz hs, fun i hi => ?_⟩
    obtain ⟨o, hok, h1, hd⟩ := mem_ready hi
    have hlt : i < ops.size := (Array.getElem?_eq_some_iff.1 hok).1
    have hD : listed.getD i false = false := by
      rw [Array.getD_eq_getD_getElem?, Array.getElem?_eq_getElem (by omega)] at h1 ⊢
      simpa using h1
    have hil : i < ops.toList.length := by simpa using hlt
    have hit : i < tr.length := by rw [ht.length]; exact hil
    obtain ⟨hok1, _⟩ := ht.at i hil hit
    have hoi : ops.toList[i] = o := by have := hok; rw [Array.getElem?_eq_getElem hlt] at this; simpa using this
    rw [hoi] at hok1
    have hx : tr[i]? = some tr[i] := List.getElem?_eq_getElem hit
    have hev := ev_ready ho ht hc hok hD hd
    have hrw : ∀ k, k ∈ tr[i].e.rd ∨ tr[i].e.tc.has k = true → (stD ops tr s fun k => listed.getD k false).rw k = (stAt ops.toList tr s i).rw k := fun k hk => rows_ready ho hln ht hc hok hD hd hx hk
    have hdo : ∀ d, o.dst = some d → d < G.n := hdst o (by rw [← hoi]; simp)
    -- the listed set with i
    have hlist : (fun k => (listed.setIfInBounds i true).getD k false) = fun k => listed.getD k false || k == i := by
      funext k
      rw [Array.getD_eq_getD_getElem?, Array.getD_eq_getD_getElem?, Array.getElem?_setIfInBounds]
      by_cases hk : i = k
      · subst hk
        rw [if_pos rfl, if_pos (by omega)]; simp
      · rw [if_neg hk]
        have : (k == i) = false := by simp; exact fun e => hk e.symm
        simp [this]
    have next : ∀ (a' : Act) (w' : World), Sim G (stD ops tr s fun k => listed.getD k false || k == i) a' w' → wpAny P .any ops Q fuel (listed.setIfInBounds i true) a' w' := fun a' w' hs' => by
      refine ih _ a' w' (by simpa using hsz) ?_ (by rw [hlist]; exact hs') ?_
      · rw [hlist]
        intro j oj hj hDj k hk
        simp only [Bool.or_eq_true, beq_iff_eq] at hDj ⊢
        rcases hDj with hDj | rfl
        · exact .inl (hc j oj hj hDj k hk)
        · rw [hok] at hj; cases hj; exact .inl (hd k hk)
      · have := count_set listed.toList i (by
          rw [Array.getElem?_toList, Array.getElem?_eq_getElem (by omega)]
          rw [Array.getD_eq_getD_getElem?, Array.getElem?_eq_getElem (by omega)] at hD
          simpa using hD)
        simp only [Array.toList_setIfInBounds]
        omega
    have hdone := stD_done (tr := tr) (s := s) ho hln hc hok hD hx
    unfold wpOp
    simp only [hok]
    -- the guard
    have hgv : ∀ b, gVal ops (stAt ops.toList tr s i) o = some b → Region.wanted o (yielded ops a.tmps) = b := fun b hg => by
      unfold gVal at hg
      cases hgd : o.guard with
      | none => simp only [hgd] at hg; simp at hg; subst hg; simp [Region.wanted, hgd]
      | some jw =>
        obtain ⟨j, want⟩ := jw
        simp only [hgd] at hg
        split at hg
        · rename_i d hdj
          have hn : d ∈ names ops o := by simp [names, hgd, hdj]
          have hsl := slot_ready ho ht hc hok hD hd hn
          split at hg
          · rename_i bb hbb
            rw [hbb] at hsl
            obtain ⟨E, hsE⟩ := hs
            have hval := hsE.slots d
            have hval' : a.tmps.getD d undef = .bool bb := by
              have hh : (stD ops tr s fun k => listed.getD k false).sl d = .v (.bool bb) := hsl
              rw [hh] at hval; exact hval.v_eq
            have hy : yielded ops a.tmps j = some bb := by
              have hsz' : a.tmps[d]? = some (.bool bb) := by
                rw [Array.getD_eq_getD_getElem?] at hval'
                cases h : a.tmps[d]? with
                | none => rw [h] at hval'; simp [undef] at hval'
                | some x => rw [h] at hval'; simp at hval'; rw [hval']
              simp [yielded, hdj, hsz']
            simp at hg
            simp [Region.wanted, hgd, hy, hg]
          · rename_i cs hbb
            rw [hbb] at hsl
            obtain ⟨E, hsE⟩ := hs
            have hval := hsE.slots d
            have hval' : a.tmps.getD d undef = .tuple cs := by
              have hh : (stD ops tr s fun k => listed.getD k false).sl d = .v (.tuple cs) := hsl
              rw [hh] at hval; exact hval.v_eq
            simp at hg
            subst hg
            simp [Region.wanted, hgd, yielded_tuple hdj hval']
          · cases hg
        · cases hg
    cases hok1 with
    | skip hg hp hr htc =>
      rw [hgv false hg]
      simp only [Bool.false_eq_true, if_false]
      refine next _ _ ?_
      rw [hdone]
      have h0 := put_junk (dst := o.dst) hdo hs
      have e : (stD ops tr s fun k => listed.getD k false).stepIn o tr[i] = (stD ops tr s fun k => listed.getD k false).put o.dst (.v undef) := by
        unfold St.stepIn
        rw [hp, htc]
        simp only [Tc.has, List.contains_nil, Bool.false_eq_true, if_false]
      rw [e]; exact h0
    | step hg hr he =>
      rw [hgv true hg]
      rw [if_pos rfl]
      refine .inl ?_
      refine he (stD ops tr s fun k => listed.getD k false) hrw hev a w hs _ _ fun a' w' hs' => next a' w' ?_
      rw [hdone]
      exact hs'

end
end Go.Abs

/- DERIVED by an AI agent. What a region that draws its order asks. No program in sight. -/
namespace Go.Abs
set_option linter.unusedSimpArgs false

/-! ### what an operation that only reads looks at -/
/-- The rows that a value stands for. -/
def pid1 : PV → List Nat | .own k _ => [k] | .ref k _ _ => [k] | _ => []
def pids : PV → List Nat | .own k _ => [k] | .ref k _ _ => [k] | .ag c => c.flatMap pid1 | _ => []
def same (rw rw' : Nat → Row) (p : PV) : Prop := ∀ k ∈ pids p, rw' k = rw k
section
variable {P : Program} {T : Tab} {rw rw' : Nat → Row} {p : PV}
theorem ptrK_same (hs : same rw rw' p) (K : Md → List PV → Nat → Prop) : ptrK rw' p K = ptrK rw p K := by
  cases p <;> first | rfl | (simp only [ptrK]; rw [hs _ (List.mem_singleton.2 rfl)])
theorem slK_same (hs : same rw rw' p) (K : Bool → Nat → List PV → Prop) : slK rw' p K = slK rw p K := by
  cases p <;> first | rfl | (simp only [slK]; rw [hs _ (List.mem_singleton.2 rfl)])
theorem slFzK_same (hs : same rw rw' p) (K : Bool → Nat → List PV → Prop) : slFzK rw' p K = slFzK rw p K := by
  cases p <;> first | rfl | (simp only [slFzK]; rw [hs _ (List.mem_singleton.2 rfl)])
theorem sureK_same (hs : same rw rw' p) (A : Prop) : sureK rw' p A = sureK rw p A := by
  cases p <;> first | rfl | (simp only [sureK]; rw [hs _ (List.mem_singleton.2 rfl)])
theorem cellsK_same (hs : same rw rw' p) (K : List PV → Prop) : cellsK rw' p K = cellsK rw p K := by
  cases p <;> first | rfl | (simp only [cellsK]; rw [hs _ (List.mem_singleton.2 rfl)])
theorem indexAddrK_same {i : PV} {t : TypeId} (hs : same rw rw' p) (K : PV → Prop) : indexAddrK T rw' t p i K = indexAddrK T rw t p i K := by
  unfold indexAddrK
  simp only [sureK_same hs]
  cases p <;> first | rfl | (simp only; rw [hs _ (List.mem_singleton.2 rfl)])
theorem lenK_same {t : TypeId} (hs : same rw rw' p) (K : PV → Prop) : lenK T rw' t p K = lenK T rw t p K := by
  unfold lenK
  simp only [slK_same hs]
theorem sliceK_same {ev : Operand → PV} {t : TypeId} {lo hi mx : Option Operand} (hs : same rw rw' p) (K : PV → Prop) : sliceK T rw' ev t p lo hi mx K = sliceK T rw ev t p lo hi mx K := by
  unfold sliceK
  simp only [slFzK_same hs]
theorem convK_same {a b : TypeId} (hs : same rw rw' p) (K : PV → Prop) : convK T rw' a b p K = convK T rw a b p K := by
  unfold convK
  simp only [slK_same hs]

theorem valK_same {ev : Operand → PV} {op : Op} (h : ∀ x ∈ op.operands, same rw rw' (ev x)) (K : PV → Prop) : valK T rw' ev op K = valK T rw ev op K := by
  unfold valK
  cases op <;> try rfl
  case convert a b x => exact convK_same (h x (by simp [Op.operands])) K
  case load t x => exact ptrK_same (h x (by simp [Op.operands])) _
  case fieldAddr t x f => simp only [sureK_same (h x (by simp [Op.operands]))]
  case indexAddr t x i => exact indexAddrK_same (h x (by simp [Op.operands])) K
  case slice t x lo hi mx => exact sliceK_same (h x (by simp [Op.operands])) K
  case nilCheck x => exact sureK_same (h x (by simp [Op.operands])) _
  case call c =>
    dsimp only
    split
    · rename_i x t; exact lenK_same (h x (by simp [Op.operands, Call.operands])) K
    · rfl
    · rfl
    · rfl

theorem fillK_same {fs : List (Nat × TypeId)} : ∀ (pp : List (Nat × PV)) (c : List PV) (K : List PV → Prop), (∀ x ∈ pp, same rw rw' x.2) → fillK T rw' fs pp c K = fillK T rw fs pp c K := by
  intro pp
  induction pp with
  | nil => intro c K _; rfl
  | cons x pp ih =>
    intro c K h
    obtain ⟨i, p⟩ := x
    have h0 : same rw rw' p := h (i, p) (by simp)
    have ih' : ∀ c K, fillK T rw' fs pp c K = fillK T rw fs pp c K := fun c K => ih c K fun y hy => h y (by simp [hy])
    simp only [fillK, ih', cellsK_same h0]
theorem fillK_det {fs : List (Nat × TypeId)} : ∀ (pp : List (Nat × PV)) (c : List PV) (K : List PV → Prop), fillK T rw fs pp c K → ∃ c', K c' ∧ fillK T rw fs pp c (· = c') := by
  intro pp
  induction pp with
  | nil => intro c K h; exact ⟨c, h, rfl⟩
  | cons x pp ih =>
    intro c K h
    obtain ⟨i, p⟩ := x
    unfold fillK at h ⊢
    split at h
    · rename_i off ft hfi
      unfold cellsK at h ⊢
      split at h <;> first
        | exact h.elim
        | (obtain ⟨a1, a2, h⟩ := h; obtain ⟨c', h1, h2⟩ := ih _ _ h; exact ⟨c', h1, a1, a2, h2⟩)
        | (obtain ⟨q, a1, a2, h⟩ := h; obtain ⟨c', h1, h2⟩ := ih _ _ h; exact ⟨c', h1, q, a1, a2, h2⟩)
        | (obtain ⟨q, q2, a1, a2, h⟩ := h; obtain ⟨c', h1, h2⟩ := ih _ _ h; exact ⟨c', h1, q, q2, a1, a2, h2⟩)
    · exact h.elim
end

/-- An operation that only reads. -/
def readK (T : Tab) (rw : Nat → Row) (ev : Operand → PV) (op : Op) (K : PV → Prop) : Prop :=
  match op with
  | .build t parts => buildVK T rw ev t parts K
  | op => valK T rw ev op K

/-- The rows that are looked at to lend a value. -/
def lids (rw : Nat → Row) : Nat → PV → List Nat
  | 0, _ => []
  | n + 1, p => match p with
    | .own k _ => [k]
    | .ref k _ _ => k :: (match (rw k).kind with | .box _ c => c.flatMap (lids rw n) | _ => [])
    | .ag c => c.flatMap (lids rw n)
    | .clo _ c => c.flatMap (lids rw n)
    | _ => []

theorem lend_same {rw rw' : Nat → Row} : ∀ (n : Nat) (p : PV), (∀ k ∈ lids rw n p, rw' k = rw k) → lend rw' n p = lend rw n p := by
  intro n
  induction n with
  | zero => intro p _; rfl
  | succ n ih =>
    intro p h
    have lst : ∀ c : List PV, (∀ k ∈ c.flatMap (lids rw n), rw' k = rw k) → c.map (lend rw' n) = c.map (lend rw n) := fun c hc =>
      List.map_congr_left fun q hq => ih q fun k hk => hc k (List.mem_flatMap.2 ⟨q, hq, hk⟩)
    cases p with
    | own k ver =>
      have := h k (by simp [lids])
      simp only [lend, this]
    | ref k ver off =>
      have h0 := h k (by simp [lids])
      simp only [lend, h0]
      split
      · cases hk : (rw k).kind with
        | box t c => simp only; rw [lst c fun j hj => h j (by simp only [lids, hk, List.mem_cons]; exact .inr hj)]
        | _ => rfl
      · rfl
    | ag c => simp only [lend]; rw [lst c fun j hj => h j hj]
    | clo f c => simp only [lend]; rw [lst c fun j hj => h j hj]
    | _ => rfl

/-- A call whose rows are the caller's from then on. -/
def nK (P : Program) (s : St) (o : Oper) (K : Ent → St → Prop) : Prop :=
  match o.op with
  | .call c => (match c.callee with
      | .value f => (match o.dst with
          | some d => callK P s.rw s.ev f c.args fun rv => K ⟨(c.args.toList.map s.ev).flatMap (lids s.rw deep) ++ lids s.rw (deep + 1) (s.ev f), .res d⟩ (adoptSt s d rv)
          | none => callK P s.rw s.ev f c.args fun _ => K ⟨(c.args.toList.map s.ev).flatMap (lids s.rw deep) ++ lids s.rw (deep + 1) (s.ev f), .ids []⟩ s)
      | _ => False)
  | _ => False

def rdIds (s : St) (o : Oper) : List Nat := match rowFree o with | true => [] | false => (o.op.operands.toList.map s.ev).flatMap pids

/-- An operation of a region that draws: what it reads and turns, what it comes to. -/
def dK (P : Program) (T : Tab) (s : St) (o : Oper) (K : Ent → St → Prop) : Prop :=
  match o.op with
  | .store _ ad x => opK P T s o (K ⟨[], .ids (pids (s.ev ad) ++ pids (s.ev x))⟩)
  | .alloc _ => opK P T s o (K ⟨[], .ids o.dst.toList⟩)
  | .box _ x => opK P T s o (K ⟨pids (s.ev x), .ids o.dst.toList⟩)
  | .makeSlice _ _ _ => opK P T s o (K ⟨[], .ids o.dst.toList⟩)
  | .buildSlice _ _ parts => opK P T s o (K ⟨[], .ids (o.dst.toList ++ (parts.toList.map fun x => s.ev x.2).flatMap pids)⟩)
  | .call c => (match c.callee with
      | .builtin .append => (match c.args with | ⟨[x, y]⟩ => opK P T s o (K ⟨pids (s.ev y), .ids (o.dst.toList ++ pids (s.ev x))⟩) | _ => False)
      | .value _ => nK P s o K
      | _ => readK T s.rw s.ev o.op fun p => K ⟨rdIds s o, .ids []⟩ (s.put o.dst p))
  | _ => readK T s.rw s.ev o.op fun p => K ⟨rdIds s o, .ids []⟩ (s.put o.dst p)

/-- A region that draws. -/
def drawK (P : Program) (T : Tab) (ops : Array Oper) : List Ent → List Oper → St → (St → Prop) → Prop
  | acc, [], s, K => lines ops acc.reverse = true ∧ K s
  | acc, o :: os, s, K => guardK ops s o
      (fun s1 => dK P T s1 o fun e s2 => drawK P T ops (e :: acc) os s2 K)
      (fun s2 => drawK P T ops (⟨[], .ids []⟩ :: acc) os s2 K)

section
variable {P : Program} {T : Tab} {G : Ghost} {ops : Array Oper}

theorem valK_det {rw : Nat → Row} {ev : Operand → PV} {op : Op} {K : PV → Prop} (h : valK T rw ev op K) : ∃ p, K p ∧ ∀ K' : PV → Prop, K' p → valK T rw ev op K' := by
  unfold valK at h ⊢
  split at h
  · exact ⟨_, h, fun _ h => h⟩
  · exact ⟨_, h, fun _ h => h⟩
  · split at h
    · rename_i t _
      cases t with
      | true => exact ⟨_, h.1 rfl, fun _ h' => ⟨fun _ => h', fun h => by cases h⟩⟩
      | false => exact ⟨_, h.2 rfl, fun _ h' => ⟨(fun h => by cases h), fun _ => h'⟩⟩
    · exact h.elim
  · exact binK_det h
  · exact unK_det h
  · exact convK_det h
  · obtain ⟨m, c, off, h, hd⟩ := ptrK_det h
    obtain ⟨p, hp, hl⟩ := ldK_det h
    exact ⟨p, hp, fun K' hk => hd _ (hl _ hk)⟩
  · obtain ⟨o', ft, h, hd⟩ := fieldK_det h
    obtain ⟨hptr, h⟩ := h
    obtain ⟨hk, hs⟩ := sureK_det h
    exact ⟨_, hk, fun K' hk => hd _ ⟨hptr, hs _ hk⟩⟩
  · rename_i t x f
    obtain ⟨o', ft, h, hd⟩ := fieldK_det h
    cases he : ev x with
    | ag c =>
      rw [he] at h
      obtain ⟨p, hp, hl⟩ := ldK_det h
      exact ⟨p, hp, fun K' hk => hd _ (hl _ hk)⟩
    | _ => rw [he] at h; exact h.elim
  · exact indexAddrK_det h
  · obtain ⟨hs, h⟩ := h
    split at h
    · exact ⟨_, h.2.2, fun _ hk => ⟨hs, h.1, h.2.1, hk⟩⟩
    · obtain ⟨p, hp, hl⟩ := ldK_det h.2.2
      exact ⟨p, hp, fun _ hk => ⟨hs, h.1, h.2.1, hl _ hk⟩⟩
    · exact h.elim
  · exact sliceK_det h
  · split at h
    · exact ⟨_, h.2, fun _ hk => ⟨h.1, hk⟩⟩
    · exact h.elim
  · split at h
    · exact ⟨_, h.2, fun _ hk => ⟨h.1, hk⟩⟩
    · exact h.elim
  · obtain ⟨hk, hs⟩ := sureK_det h
    exact ⟨_, hk, fun K' hk => hs _ hk⟩
  · split at h
    · exact lenK_det h
    · exact minmaxK_det h
    · exact minmaxK_det h
    · exact h.elim
  · exact h.elim

theorem readK_det {rw : Nat → Row} {ev : Operand → PV} {op : Op} {K : PV → Prop} (h : readK T rw ev op K) : ∃ p, K p ∧ readK T rw ev op (· = p) := by
  unfold readK at h ⊢
  split at h
  · unfold buildVK at h ⊢
    obtain ⟨h1, h⟩ := h
    split at h
    · rename_i fs hfs
      obtain ⟨h2, h⟩ := h
      obtain ⟨c', h3, h4⟩ := fillK_det _ _ _ h
      refine ⟨_, h3, h1, h2, ?_⟩
      refine (?_ : fillK T rw fs _ _ (fun c => PV.ag c = PV.ag c'))
      have e : (fun c => PV.ag c = PV.ag c') = (· = c') := by funext c; simp
      rw [e]; exact h4
    · exact h.elim
  · obtain ⟨p, hp, hd⟩ := valK_det h
    exact ⟨p, hp, hd _ rfl⟩

theorem readK_same {rw rw' : Nat → Row} {ev : Operand → PV} {op : Op} (h : ∀ x ∈ op.operands, same rw rw' (ev x)) (K : PV → Prop) : readK T rw' ev op K = readK T rw ev op K := by
  unfold readK
  split
  · rename_i t parts
    unfold buildVK
    split
    · rename_i fs hfs
      rw [fillK_same _ _ _ fun x hx => by
        obtain ⟨y, hy, rfl⟩ := List.mem_map.1 hx
        exact h y.2 (by simp only [Op.operands, List.mem_toArray, List.mem_map]; exact ⟨y, hy, rfl⟩)]
    · rfl
  · exact valK_same h K
theorem readK_free {rw rw' : Nat → Row} {ev : Operand → PV} {o : Oper} {K : PV → Prop} (hf : rowFree o = true) (h : readK T rw ev o.op K) : readK T rw' ev o.op K := by
  unfold rowFree at hf
  split at hf <;> first
    | (rename_i ho; rw [ho] at h ⊢; exact h)
    | cases hf

theorem read_sound (hT : T.Ok P) {s : St} {K : PV → Prop} {o : Oper} (hk : readK T s.rw s.ev o.op K) : ∃ p, K p ∧ Yields P G s o p := by
  unfold readK at hk
  split at hk
  · rename_i t parts ho; exact buildV_sound hT ho hk
  · exact val_sound hT hk

theorem map_ev {s s' : St} {l : List (Nat × Operand)} (h : ∀ x ∈ l, s'.ev x.2 = s.ev x.2) : (l.map fun x => s'.ev x.2) = l.map fun x => s.ev x.2 := List.map_congr_left h

def upR (fz : List Nat) (d : Nat) (r : Row) (rw : Nat → Row) : Nat → Row := fun i => if i = d then r else frzF rw fz i
theorem newSt_up (s : St) (d : Nat) (kd : RK) (p : Nat → PV) : newSt s d kd p = (St.mk s.sl (upR [] d ⟨(s.rw d).ver + 1, kd⟩ s.rw)).put (some d) (p ((s.rw d).ver + 1)) := by
  unfold newSt St.row upR; rw [frzF_nil]
theorem appSt_up (s : St) (d k : Nat) (kd : RK) : appSt s d k kd = (St.mk s.sl (upR [] k ⟨(s.rw k).ver + 1, kd⟩ s.rw)).put (some d) (.own k ((s.rw k).ver + 1)) := by
  unfold appSt St.row upR; rw [frzF_nil]
theorem row_up (s : St) (k : Nat) (r : Row) : s.row k r = St.mk s.sl (upR [] k r s.rw) := by
  unfold St.row upR; rw [frzF_nil]
theorem frz_up (s : St) (fz : List Nat) (k : Nat) (r : Row) : (s.freeze fz).row k r = St.mk s.sl (upR fz k r s.rw) := rfl

theorem pureK_loc {rw : Nat → Row} {p : PV} {K : List PV → List Nat → Prop} (hk : pureK rw p K) : ∃ c f, K c f ∧ (∀ j ∈ f, j ∈ pids p) ∧ ∀ rw', same rw rw' p → pureK rw' p (fun a b => a = c ∧ b = f) := by
  unfold pureK at hk
  split at hk
  · exact ⟨_, _, hk.2, by simp, fun rw' _ => ⟨hk.1, rfl, rfl⟩⟩
  · exact ⟨_, _, hk.2, by simp, fun rw' _ => ⟨hk.1, rfl, rfl⟩⟩
  · rename_i k ver
    obtain ⟨h1, h2, hk⟩ := hk
    split at hk
    · rename_i hkd
      refine ⟨_, _, hk, by simp, fun rw' hs => ?_⟩
      have := hs k (List.mem_singleton.2 rfl)
      unfold pureK
      simp only [this, hkd]
      exact ⟨h1, h2, by simp⟩
    · rename_i hkd
      refine ⟨_, _, hk, fun j hj => hj, fun rw' hs => ?_⟩
      have := hs k (List.mem_singleton.2 rfl)
      unfold pureK
      simp only [this, hkd]
      exact ⟨h1, h2, by simp⟩
    · exact hk.elim
  · exact ⟨_, _, hk.2, by simp, fun rw' _ => ⟨hk.1, rfl, rfl⟩⟩
  · exact hk.elim
theorem pureL_loc {rw : Nat → Row} {es : Nat} : ∀ {ps : List PV} {K : List PV → List Nat → Prop}, pureL rw es ps K → ∃ c f, K c f ∧ (∀ j ∈ f, j ∈ ps.flatMap pids) ∧ ∀ rw', (∀ p ∈ ps, same rw rw' p) → ∀ K' : List PV → List Nat → Prop, K' c f → pureL rw' es ps K' := by
  intro ps
  induction ps with
  | nil => intro K h; exact ⟨_, _, h, by simp, fun _ _ K' h => h⟩
  | cons p ps ih =>
    intro K h
    obtain ⟨c, f, ⟨hl, h⟩, hf, hp⟩ := pureK_loc h
    obtain ⟨cs, fs, h, hfs, hs⟩ := ih h
    refine ⟨_, _, h, fun j hj => ?_, fun rw' hsame K' hK => ?_⟩
    · rw [List.flatMap_cons]
      rcases List.mem_append.1 hj with h | h
      · exact List.mem_append.2 (.inl (hf j h))
      · exact List.mem_append.2 (.inr (hfs j h))
    · have h1 := hp rw' (hsame p (by simp))
      have back : ∀ {K2 : List PV → List Nat → Prop}, K2 c f → pureK rw' p K2 := fun {K2} hk2 => by
        unfold pureK at h1 ⊢
        split at h1
        · obtain ⟨q1, rfl, rfl⟩ := h1; exact ⟨q1, hk2⟩
        · obtain ⟨q1, rfl, rfl⟩ := h1; exact ⟨q1, hk2⟩
        · obtain ⟨q1, q2, h1⟩ := h1
          refine ⟨q1, q2, ?_⟩
          split at h1
          · obtain ⟨rfl, rfl⟩ := h1; exact hk2
          · obtain ⟨rfl, rfl⟩ := h1; exact hk2
          · exact h1.elim
        · obtain ⟨q1, rfl, rfl⟩ := h1; exact ⟨q1, hk2⟩
        · exact h1.elim
      exact back ⟨hl, hs rw' (fun q hq => hsame q (by simp [hq])) (fun cs' fs' => K' (c ++ cs') (f ++ fs')) hK⟩
theorem cellsK_det {rw : Nat → Row} {p : PV} {K : List PV → Prop} (hk : cellsK rw p K) : ∃ c, K c ∧ (∀ q ∈ c, ∀ j ∈ pid1 q, j ∈ pids p) ∧ ∀ K' : List PV → Prop, K' c → cellsK rw p K' := by
  have one : ∀ q : PV, ∀ q' ∈ [q], ∀ j ∈ pid1 q', j ∈ pids q := fun q q' hq j hj => by
    rw [List.mem_singleton.1 hq] at hj
    cases q <;> simp [pid1] at hj <;> simp [pids, hj]
  unfold cellsK at hk ⊢
  split at hk
  · exact ⟨_, hk, fun q hq j hj => List.mem_flatMap.2 ⟨q, hq, hj⟩, fun _ h => h⟩
  · exact ⟨_, hk.2, one _, fun _ h => ⟨hk.1, h⟩⟩
  · exact ⟨_, hk, one _, fun _ h => h⟩
  · exact ⟨_, hk, one _, fun _ h => h⟩
  · exact ⟨_, hk, one _, fun _ h => h⟩
  · exact ⟨_, hk.2.2, one _, fun _ h => ⟨hk.1, hk.2.1, h⟩⟩
  · exact ⟨_, hk.2.2, one _, fun _ h => ⟨hk.1, hk.2.1, h⟩⟩
  · exact hk.elim
theorem oneP_same {rw rw' : Nat → Row} {p : PV} (hs : ∀ j ∈ pid1 p, rw' j = rw j) (h : oneP rw p) : oneP rw' p := by
  cases p <;> first | exact h | (simp only [oneP] at h ⊢; rw [hs _ (List.mem_singleton.2 rfl)]; exact h)

/-- What a step of an operation comes to, wherever the rows that it looks at stand. -/
def LocalK (P : Program) (T : Tab) (G : Ghost) (s : St) (o : Oper) (K : Ent → St → Prop) : Prop :=
  ∃ x : Stp, K x.e (s.step o x) ∧ (∀ k, x.e.tc.has k = false → x.rows k = s.rw k) ∧
    ∀ s' : St, (∀ k, k ∈ x.e.rd ∨ x.e.tc.has k = true → s'.rw k = s.rw k) → (∀ y ∈ o.op.operands, s'.ev y = s.ev y) → Effects P G s' o (s'.stepIn o x)

theorem mk_local (hT : T.Ok P) {s : St} {o : Oper} {K : Ent → St → Prop} (hd : ∀ d, o.dst = some d → d < G.n) {val : PV} {fz : List Nat} {d : Nat} {r : Row} {rd l : List Nat} (hdl : d ∈ l) (hfl : ∀ j ∈ fz, j ∈ l)
    (h1 : K ⟨rd, .ids l⟩ ((St.mk s.sl (upR fz d r s.rw)).put o.dst val))
    (h2 : ∀ s' : St, (∀ k ∈ rd, s'.rw k = s.rw k) → (∀ k ∈ l, s'.rw k = s.rw k) → (∀ y ∈ o.op.operands, s'.ev y = s.ev y) → opK P T s' o (· = (St.mk s'.sl (upR fz d r s'.rw)).put o.dst val)) : LocalK P T G s o K := by
  refine ⟨⟨val, upR fz d r s.rw, ⟨rd, .ids l⟩⟩, h1, fun k hk => ?_, fun s' hr hev => ?_⟩
  · have hk : k ∉ l := by simpa [Tc.has] using hk
    show upR fz d r s.rw k = s.rw k
    unfold upR frzF
    rw [if_neg (fun e => hk (by rw [e]; exact hdl)), if_neg (fun e => hk (hfl k e))]
  · have e : s'.stepIn o ⟨val, upR fz d r s.rw, ⟨rd, .ids l⟩⟩ = (St.mk s'.sl (upR fz d r s'.rw)).put o.dst val := by
      unfold St.stepIn
      congr 2
      funext k
      by_cases hk : (Tc.ids l).has k = true
      · rw [if_pos hk]
        have := hr k (.inr hk)
        show upR fz d r s.rw k = upR fz d r s'.rw k
        unfold upR frzF
        rw [this]
      · rw [if_neg hk]
        have hk : k ∉ l := by simpa [Tc.has] using hk
        unfold upR frzF
        rw [if_neg (fun e => hk (by rw [e]; exact hdl)), if_neg (fun e => hk (hfl k e))]
    rw [e]
    obtain ⟨s2, rfl, he⟩ := op_sound (G := G) hT hd (h2 s' (fun k hk => hr k (.inl hk)) (fun k hk => hr k (.inr (by simpa [Tc.has] using hk))) hev)
    exact he

theorem store_local (hT : T.Ok P) {s : St} {o : Oper} {K : Ent → St → Prop} {t : TypeId} {ad x : Operand} (ho : o.op = .store t ad x) (hd : ∀ d, o.dst = some d → d < G.n)
    (hk : opK P T s o (K ⟨[], .ids (pids (s.ev ad) ++ pids (s.ev x))⟩)) : LocalK P T G s o K := by
  simp only [opK, ho] at hk
  obtain ⟨hdst, ht, hk⟩ := hk
  have ops' : ∀ s' : St, (∀ y ∈ o.op.operands, s'.ev y = s.ev y) → s'.ev ad = s.ev ad ∧ s'.ev x = s.ev x := fun s' hev => ⟨hev _ (by simp [ho, Op.operands]), hev _ (by simp [ho, Op.operands])⟩
  split at hk
  · rename_i k ver off hev
    obtain ⟨hver, hk⟩ := hk
    have hin : k ∈ pids (s.ev ad) ++ pids (s.ev x) := by rw [hev]; simp [pids]
    have hput : ∀ (s' : St) (p : PV), s'.put o.dst p = s' := fun s' p => by rw [hdst]; rfl
    split at hk
    · rename_i bt c hkind
      obtain ⟨new, ⟨h1, h2, h3, hk⟩, hin2, hc⟩ := cellsK_det hk
      refine mk_local hT hd (rd := []) (val := .junk) (fz := []) (d := k) (r := ⟨ver, .box bt (spl c off new)⟩) hin (by simp) (by rw [hput, ← row_up]; exact hk) fun s' _ hl hev' => ?_
      obtain ⟨e1, e2⟩ := ops' s' hev'
      rw [hput, ← row_up]
      simp only [opK, ho]
      refine ⟨hdst, ht, ?_⟩
      rw [e1, hev, e2]
      have hk' := hl k hin
      simp only [hk']
      refine ⟨hver, ?_⟩
      simp only [hkind]
      rw [cellsK_same (rw := s.rw) (fun j hj => hl j (List.mem_append.2 (.inr hj)))]
      exact hc _ ⟨h1, h2, fun p hp => oneP_same (fun j hj => hl j (List.mem_append.2 (.inr (hin2 p hp j hj)))) (h3 p hp), rfl⟩
    · rename_i e sz c hkind
      obtain ⟨new, fz, ⟨h1, h2, h3, hk⟩, hf, hc⟩ := pureK_loc hk
      refine mk_local hT hd (rd := []) (val := .junk) (fz := fz) (d := k) (r := ⟨ver, .sli e sz false (spl c off new)⟩) hin (fun j hj => List.mem_append.2 (.inr (hf j hj))) (by rw [hput, ← frz_up]; exact hk) fun s' _ hl hev' => ?_
      obtain ⟨e1, e2⟩ := ops' s' hev'
      rw [hput, ← frz_up]
      simp only [opK, ho]
      refine ⟨hdst, ht, ?_⟩
      rw [e1, hev, e2]
      have hk' := hl k hin
      simp only [hk']
      refine ⟨hver, ?_⟩
      simp only [hkind]
      have hc' := hc s'.rw (fun j hj => hl j (List.mem_append.2 (.inr hj)))
      unfold pureK at hc' ⊢
      split at hc'
      · obtain ⟨q1, rfl, rfl⟩ := hc'; exact ⟨q1, h1, h2, h3, rfl⟩
      · obtain ⟨q1, rfl, rfl⟩ := hc'; exact ⟨q1, h1, h2, h3, rfl⟩
      · obtain ⟨q1, q2, hc'⟩ := hc'
        refine ⟨q1, q2, ?_⟩
        split at hc'
        · obtain ⟨rfl, rfl⟩ := hc'; exact ⟨h1, h2, h3, rfl⟩
        · obtain ⟨rfl, rfl⟩ := hc'; exact ⟨h1, h2, h3, rfl⟩
        · exact hc'.elim
      · obtain ⟨q1, rfl, rfl⟩ := hc'; exact ⟨q1, h1, h2, h3, rfl⟩
      · exact hc'.elim
    · exact hk.elim
  · exact hk.elim

theorem new_local (hT : T.Ok P) {s : St} {o : Oper} {K : Ent → St → Prop} {d : Nat} {kd : RK} {p : Nat → PV} {rd : List Nat} (hdst : o.dst = some d) (hd : ∀ d, o.dst = some d → d < G.n) (h1 : K ⟨rd, .ids o.dst.toList⟩ (newSt s d kd p))
    (h2 : ∀ s' : St, (∀ k ∈ rd, s'.rw k = s.rw k) → (∀ y ∈ o.op.operands, s'.ev y = s.ev y) → opK P T s' o (· = newSt s' d kd p)) : LocalK P T G s o K := by
  have hin : d ∈ o.dst.toList := by rw [hdst]; simp
  refine mk_local hT hd (val := p ((s.rw d).ver + 1)) (fz := []) (d := d) (r := ⟨(s.rw d).ver + 1, kd⟩) hin (by simp) (by rw [newSt_up] at h1; rw [hdst] at h1 ⊢; exact h1) fun s' hr hl hev => ?_
  have := h2 s' hr hev
  rw [newSt_up, hl d hin, ← hdst] at this
  exact this

theorem d_local (hT : T.Ok P) {s : St} {o : Oper} {K : Ent → St → Prop} (hd : ∀ d, o.dst = some d → d < G.n) (hk : dK P T s o K) : LocalK P T G s o K := by
  have read : (readK T s.rw s.ev o.op fun p => K ⟨rdIds s o, .ids []⟩ (s.put o.dst p)) → LocalK P T G s o K := fun hk => by
    obtain ⟨p, hp, hq⟩ := readK_det hk
    refine ⟨⟨p, s.rw, ⟨rdIds s o, .ids []⟩⟩, hp, fun _ _ => rfl, fun s' hr hev => ?_⟩
    have e : s'.stepIn o ⟨p, s.rw, ⟨rdIds s o, .ids []⟩⟩ = s'.put o.dst p := by
      unfold St.stepIn
      simp only [Tc.has, List.contains_nil, Bool.false_eq_true, if_false]
    rw [e]
    have hq' : readK T (St.mk s.sl s'.rw).rw (St.mk s.sl s'.rw).ev o.op (· = p) := by
      cases hf : rowFree o with
      | true => exact readK_free hf hq
      | false =>
        refine (readK_same (rw := s.rw) (rw' := s'.rw) (ev := s.ev) (fun x hx k hk => hr k (.inl ?_)) _).mpr hq
        simp only [rdIds, hf]
        exact List.mem_flatMap.2 ⟨_, List.mem_map.2 ⟨x, by simpa using hx, rfl⟩, hk⟩
    obtain ⟨q, rfl, hy⟩ := read_sound (G := G) hT hq'
    exact (hy.congr (s1 := s') rfl hev).effects hd
  unfold dK at hk
  split at hk
  · rename_i t ad x ho; exact store_local hT ho hd hk
  · rename_i t ho
    simp only [opK, ho] at hk
    split at hk
    · rename_i d hdst
      refine new_local hT hdst hd hk.2 fun s' _ _ => ?_
      simp only [opK, ho, hdst]
      exact ⟨hk.1, trivial⟩
    · exact hk.elim
  · rename_i t x ho
    simp only [opK, ho] at hk
    split at hk
    · rename_i d hdst
      obtain ⟨new, hk, _, hc⟩ := cellsK_det hk
      refine new_local hT hdst hd hk fun s' hr hev => ?_
      simp only [opK, ho, hdst]
      rw [hev x (by simp [ho, Op.operands]), cellsK_same (rw := s.rw) (fun j hj => hr j hj)]
      exact hc _ rfl
    · exact hk.elim
  · rename_i t l c ho
    simp only [opK, ho] at hk
    split at hk
    · rename_i d e kl nl kc nc hdst hte hl hc
      obtain ⟨h1, h2, hk⟩ := hk
      split at hk
      · rename_i z hz
        obtain ⟨h3, h4, h5, h6, hk⟩ := hk
        refine new_local hT hdst hd hk fun s' _ hev => ?_
        simp only [opK, ho, hdst, hte, hev l (by simp [ho, Op.operands]), hev c (by simp [ho, Op.operands]), hl, hc]
        refine ⟨h1, h2, ?_⟩
        simp only [hz]
        exact ⟨h3, h4, h5, h6, trivial⟩
      · exact hk.elim
    · exact hk.elim
  · rename_i t n parts ho
    simp only [opK, ho] at hk
    split at hk
    · rename_i d hdst
      unfold buildK at hk
      obtain ⟨ht, hk⟩ := hk
      split at hk
      · rename_i e hte
        obtain ⟨he, hn, hidx, hbig, hk⟩ := hk
        obtain ⟨c, f, ⟨hdf, hk⟩, hf, hp⟩ := pureL_loc hk
        rw [frz_up] at hk
        have hin : d ∈ o.dst.toList ++ (parts.toList.map fun x => s.ev x.2).flatMap pids := by rw [hdst]; simp
        refine mk_local hT hd (rd := []) (val := .own d ((s.rw d).ver + 1)) (fz := f) (d := d) (r := ⟨(s.rw d).ver + 1, .sli e (T e).size false c⟩) hin (fun j hj => List.mem_append.2 (.inr (hf j hj))) (by rw [hdst] at hk ⊢; exact hk) fun s' _ hl hev => ?_
        rw [hdst]
        simp only [opK, ho, hdst]
        refine ⟨ht, ?_⟩
        simp only [hte]
        refine ⟨he, hn, hidx, hbig, ?_⟩
        have hm : (parts.toList.map fun x => s'.ev x.2) = parts.toList.map fun x => s.ev x.2 := map_ev fun x hx => hev _ (by
          simp only [ho, Op.operands, List.mem_toArray, List.mem_map]; exact ⟨x, hx, rfl⟩)
        rw [hm]
        refine hp s'.rw (fun p hp' j hj => hl j (List.mem_append.2 (.inr (List.mem_flatMap.2 ⟨p, hp', hj⟩)))) _ ⟨hdf, ?_⟩
        rw [frz_up, hl d hin]
      · exact hk.elim
    · exact hk.elim
  · rename_i c ho
    split at hk
    · rename_i hc
      split at hk
      · rename_i x y hargs
        simp only [opK, ho, hc] at hk
        split at hk
        · rename_i x' y' t t2 d hargs' hty hdst
          have hxy : x' = x ∧ y' = y := by rw [hargs] at hargs'; simpa using hargs'.symm
          obtain ⟨rfl, rfl⟩ := hxy
          have hmem : ∀ z, z = x' ∨ z = y' → z ∈ o.op.operands := fun z hz => by
            simp only [ho, Op.operands, Call.operands, hc, hargs]
            rcases hz with rfl | rfl <;> simp
          unfold appendK at hk
          obtain ⟨rfl, ht, hk⟩ := hk
          split at hk
          · rename_i e hte
            obtain ⟨he, hby, hk⟩ := hk
            obtain ⟨fr, sz, news, ⟨hsz, hfr, hk⟩, hdet⟩ := slK_det hk
            have mk : ∀ {p : PV} {k : Nat} {r : Row}, k ∈ o.dst.toList ++ pids (s.ev x') → K ⟨pids (s.ev y'), .ids (o.dst.toList ++ pids (s.ev x'))⟩ ((St.mk s.sl (upR [] k r s.rw)).put (some d) p) → (∀ s' : St, (∀ k ∈ o.dst.toList ++ pids (s.ev x'), s'.rw k = s.rw k) → s'.ev x' = s.ev x' →
                (match s'.ev x' with
                  | .v u => isNil u = true ∧ news.length * (T e).bytes ≤ 140737488355328 ∧ newSt s' d (.sli e (T e).size false news) (fun v => .own d v) = (St.mk s'.sl (upR [] k r s'.rw)).put (some d) p
                  | .own k' ver => (s'.rw k').ver = ver ∧ (match (s'.rw k').kind with
                      | .nil => news.length * (T e).bytes ≤ 140737488355328 ∧ appSt s' d k' (.sli e (T e).size false news) = (St.mk s'.sl (upR [] k r s'.rw)).put (some d) p
                      | .sli e' sz' false c => e' = e ∧ sz' = (T e).size ∧ (c.length + news.length) * (T e).bytes ≤ 140737488355328 ∧ appSt s' d k' (.sli e (T e).size false (c ++ news)) = (St.mk s'.sl (upR [] k r s'.rw)).put (some d) p
                      | _ => False)
                  | _ => False)) → LocalK P T G s o K := fun {p k r} hin h1 h2 => by
              refine mk_local hT hd (val := p) (fz := []) (d := k) (r := r) hin (by simp) (by rw [hdst] at h1 ⊢; exact h1) fun s' hr hl hev => ?_
              rw [hdst]
              simp only [opK, ho, hc, hargs, hty, hdst]
              refine ⟨rfl, ht, ?_⟩
              simp only [hte]
              refine ⟨he, hby, ?_⟩
              rw [hev y' (hmem y' (.inr rfl)), slK_same (rw := s.rw) (fun j hj => hr j hj)]
              exact hdet _ ⟨hsz, hfr, h2 s' hl (hev x' (hmem x' (.inl rfl)))⟩
            split at hk
            · rename_i u hev
              obtain ⟨h1, h2, hk⟩ := hk
              have hin : d ∈ o.dst.toList ++ pids (s.ev x') := by rw [hdst]; simp
              rw [newSt_up] at hk
              refine mk hin hk fun s' hl hx => ?_
              rw [hx, hev]
              exact ⟨h1, h2, by rw [newSt_up, hl d hin]⟩
            · rename_i k ver hev
              obtain ⟨hver, hk⟩ := hk
              have hin : k ∈ o.dst.toList ++ pids (s.ev x') := by rw [hev]; simp [pids]
              split at hk
              · rename_i hkind
                obtain ⟨h1, hk⟩ := hk
                rw [appSt_up] at hk
                refine mk hin hk fun s' hl hx => ?_
                rw [hx, hev]
                simp only [hl k hin]
                refine ⟨hver, ?_⟩
                simp only [hkind]
                exact ⟨h1, by rw [appSt_up, hl k hin]⟩
              · rename_i e' sz' c' hkind
                obtain ⟨h1, h2, h3, hk⟩ := hk
                rw [appSt_up] at hk
                refine mk hin hk fun s' hl hx => ?_
                rw [hx, hev]
                simp only [hl k hin]
                refine ⟨hver, ?_⟩
                simp only [hkind]
                exact ⟨h1, h2, h3, by rw [appSt_up, hl k hin]⟩
              · exact hk.elim
            · exact hk.elim
          · exact hk.elim
        · exact hk.elim
      · exact hk.elim
    · -- a call
      rename_i f hc
      simp only [nK, ho, hc] at hk
      have args : ∀ s' : St, (∀ k ∈ (c.args.toList.map s.ev).flatMap (lids s.rw deep) ++ lids s.rw (deep + 1) (s.ev f), s'.rw k = s.rw k) → (∀ y ∈ o.op.operands, s'.ev y = s.ev y) → ∀ g caps, s.ev f = .clo g caps →
          s'.ev f = s.ev f ∧ (c.args.toList.map fun x => lend s'.rw deep (s'.ev x)) ++ caps.map (lend s'.rw deep) = (c.args.toList.map fun x => lend s.rw deep (s.ev x)) ++ caps.map (lend s.rw deep) := fun s' hr hev g caps hf =>
        ⟨hev f (by simp [ho, Op.operands, Call.operands, hc]), by
          congr 1
          · refine List.map_congr_left fun x hx => ?_
            rw [hev x (by simp [ho, Op.operands, Call.operands, hc]; exact .inr (by simpa using hx))]
            exact lend_same _ _ fun k hk => hr k (List.mem_append.2 (.inl (List.mem_flatMap.2 ⟨_, List.mem_map.2 ⟨x, hx, rfl⟩, hk⟩)))
          · refine List.map_congr_left fun q hq => lend_same _ _ fun k hk => hr k (List.mem_append.2 (.inr ?_))
            rw [hf]
            exact List.mem_flatMap.2 ⟨q, hq, hk⟩⟩
      cases hdst : o.dst with
      | some d =>
        simp only [hdst] at hk
        unfold callK at hk
        split at hk
        · rename_i g caps hev
          obtain ⟨rv, hac, hk⟩ := hk
          have vers : ∀ s' : St, (∀ k, (Tc.res d).has k = true → s'.rw k = s.rw k) → adopt2 (fun k => (s'.rw k).ver) d rv 0 = adopt2 (fun k => (s.rw k).ver) d rv 0 ∧ ∀ k, addRows s'.rw d (leaves rv) 0 k = if (Tc.res d).has k = true then addRows s.rw d (leaves rv) 0 k else s'.rw k := fun s' hr => by
            have hleaf : ∀ i, s'.rw (leafId d i) = s.rw (leafId d i) := fun i => hr _ (by simp [Tc.has, leafId])
            refine ⟨?_, fun k => ?_⟩
            · have e0 : ∀ (r : RV) (i : Nat), adopt0 (fun k => (s'.rw k).ver) d r i = adopt0 (fun k => (s.rw k).ver) d r i := fun r i => by
                cases r <;> simp only [adopt0, hleaf]
              have eL : ∀ (f g : RV → Nat → PV), (∀ r i, f r i = g r i) → ∀ l i, adoptL f l i = adoptL g l i := fun f g h l => by
                induction l with
                | nil => intro i; rfl
                | cons r rs ih => intro i; simp only [adoptL, h, ih]
              have e1 : ∀ (r : RV) (i : Nat), adopt1 (fun k => (s'.rw k).ver) d r i = adopt1 (fun k => (s.rw k).ver) d r i := fun r i => by
                cases r <;> simp only [adopt1, e0, eL _ _ e0]
              cases rv <;> simp only [adopt2, e1, e0, eL _ _ e1]
            · have : ∀ (ls : List (TypeId × Nat × List PV)) (i : Nat), addRows s'.rw d ls i k = if (Tc.res d).has k = true then addRows s.rw d ls i k else s'.rw k := by
                intro ls
                induction ls with
                | nil =>
                  intro i
                  simp only [addRows]
                  by_cases hk : (Tc.res d).has k = true
                  · rw [if_pos hk]; exact hr k hk
                  · rw [if_neg hk]
                | cons l ls ih =>
                  intro i
                  obtain ⟨e, sz, c⟩ := l
                  simp only [addRows]
                  by_cases he : k = leafId d i
                  · subst he
                    rw [updF_same, updF_same, if_pos (by simp [Tc.has, leafId]), hleaf]
                  · rw [updF_other _ _ he, updF_other _ _ he]; exact ih (i + 1)
              exact this _ _
          refine ⟨⟨adopt2 (fun k => (s.rw k).ver) d rv 0, addRows s.rw d (leaves rv) 0, ⟨(c.args.toList.map s.ev).flatMap (lids s.rw deep) ++ lids s.rw (deep + 1) (s.ev f), .res d⟩⟩, ?_, fun k hn => ?_, fun s' hr hev' => ?_⟩
          · have e : s.step o ⟨adopt2 (fun k => (s.rw k).ver) d rv 0, addRows s.rw d (leaves rv) 0, ⟨(c.args.toList.map s.ev).flatMap (lids s.rw deep) ++ lids s.rw (deep + 1) (s.ev f), .res d⟩⟩ = adoptSt s d rv := by unfold St.step adoptSt; rw [hdst]
            rw [e]; exact hk
          · have hn : (Tc.res d).has k = false := hn
            have := (vers s fun _ _ => rfl).2 k
            rw [hn] at this
            simpa using this
          · obtain ⟨v1, v2⟩ := vers s' fun k hk => hr k (.inr hk)
            have e : s'.stepIn o ⟨adopt2 (fun k => (s.rw k).ver) d rv 0, addRows s.rw d (leaves rv) 0, ⟨(c.args.toList.map s.ev).flatMap (lids s.rw deep) ++ lids s.rw (deep + 1) (s.ev f), .res d⟩⟩ = adoptSt s' d rv := by
              unfold St.stepIn adoptSt
              rw [hdst, v1]
              congr 2
              funext k
              exact (v2 k).symm
            rw [e]
            obtain ⟨a1, a2⟩ := args s' (fun k hk => hr k (.inl hk)) hev' g caps hev
            obtain ⟨s2, rfl, he⟩ := call_sound (K := (· = adoptSt s' d rv)) (s := s') ho hc hdst (hd d hdst) (by
              unfold callK
              rw [a1, hev]
              simp only
              rw [a2]
              exact ⟨rv, hac, rfl⟩)
            exact he
        · exact hk.elim
      | none =>
        simp only [hdst] at hk
        unfold callK at hk
        split at hk
        · rename_i g caps hev
          obtain ⟨rv, hac, hk⟩ := hk
          refine ⟨⟨.junk, s.rw, ⟨(c.args.toList.map s.ev).flatMap (lids s.rw deep) ++ lids s.rw (deep + 1) (s.ev f), .ids []⟩⟩, ?_, fun k _ => rfl, fun s' hr hev' => ?_⟩
          · have e : s.step o ⟨.junk, s.rw, ⟨(c.args.toList.map s.ev).flatMap (lids s.rw deep) ++ lids s.rw (deep + 1) (s.ev f), .ids []⟩⟩ = s := by unfold St.step St.put; rw [hdst]
            rw [e]; exact hk
          · have e : s'.stepIn o ⟨.junk, s.rw, ⟨(c.args.toList.map s.ev).flatMap (lids s.rw deep) ++ lids s.rw (deep + 1) (s.ev f), .ids []⟩⟩ = s' := by
              unfold St.stepIn St.put
              rw [hdst]
              simp only [Tc.has, List.contains_nil, Bool.false_eq_true, if_false]
            rw [e]
            obtain ⟨a1, a2⟩ := args s' (fun k hk => hr k (.inl hk)) hev' g caps hev
            obtain ⟨s2, rfl, he⟩ := op_sound (G := G) (K := (· = s')) (s := s') (o := o) hT hd (by
              simp only [opK, ho, hc, hdst]
              refine .inl ?_
              unfold callK
              rw [a1, hev]
              simp only
              rw [a2]
              exact ⟨rv, hac, trivial⟩)
            exact he
        · exact hk.elim
    · exact read hk
  · exact read hk

end
end Go.Abs

/- DERIVED by an AI agent. Code; a function's contract from its text. No program in sight. -/
namespace Go.Abs
set_option linter.unusedSimpArgs false
set_option linter.unusedVariables false

theorem put_id {s : St} {d : Nat} {p : PV} (h : s.sl d = p) : s.put (some d) p = s := by
  unfold St.put
  have : (fun i => if i = d then p else s.sl i) = s.sl := by
    funext i
    by_cases e : i = d
    · rw [if_pos e, e, h]
    · rw [if_neg e]
  show ({ sl := fun i => if i = d then p else s.sl i, rw := s.rw } : St) = s
  rw [this]

section
variable {P : Program} {T : Tab} {G : Ghost} {ops : Array Oper}

theorem draw_trace (hT : T.Ok P) : ∀ (l : List Oper) (acc : List Ent) (s : St) (K : St → Prop), (∀ o ∈ l, ∀ d, o.dst = some d → d < G.n) → drawK P T ops acc l s K → ∃ tr s', Tr P G ops l s tr s' ∧ lines ops (acc.reverse ++ tr.map (·.e)) = true ∧ K s' := by
  intro l
  induction l with
  | nil => intro acc s K _ h; exact ⟨[], s, .nil s, by simpa using h.1, h.2⟩
  | cons o os ih =>
    intro acc s K hd hk
    have hd0 := hd o (by simp)
    have hds : ∀ o ∈ os, ∀ d, o.dst = some d → d < G.n := fun o ho => hd o (by simp [ho])
    have run : ∀ (hg : gVal ops s o = some true), dK P T s o (fun e s2 => drawK P T ops (e :: acc) os s2 K) → ∃ tr s', Tr P G ops (o :: os) s tr s' ∧ lines ops (acc.reverse ++ tr.map (·.e)) = true ∧ K s' := fun hg hk => by
      obtain ⟨x, hx, hr, he⟩ := d_local (G := G) hT hd0 hk
      obtain ⟨tr, s', ht, hl, hk'⟩ := ih _ _ K hds hx
      exact ⟨x :: tr, s', .cons (.step hg hr he) ht, by simpa using hl, hk'⟩
    have skp : gVal ops s o = some false → drawK P T ops (⟨[], .ids []⟩ :: acc) os (s.put o.dst (.v undef)) K → ∃ tr s', Tr P G ops (o :: os) s tr s' ∧ lines ops (acc.reverse ++ tr.map (·.e)) = true ∧ K s' := fun hg hk => by
      obtain ⟨tr, s', ht, hl, hk'⟩ := ih _ _ K hds hk
      have e : s.step o ⟨.v undef, s.rw, ⟨[], .ids []⟩⟩ = s.put o.dst (.v undef) := by unfold St.step; rfl
      exact ⟨⟨.v undef, s.rw, ⟨[], .ids []⟩⟩ :: tr, s', .cons (.skip hg rfl rfl rfl) (by rw [e]; exact ht), by simpa using hl, hk'⟩
    simp only [drawK, guardK] at hk
    cases hg : o.guard with
    | none =>
      simp only [hg] at hk
      exact run (by simp [gVal, hg]) hk
    | some jw =>
      obtain ⟨j, want⟩ := jw
      simp only [hg] at hk
      split at hk
      · rename_i d hdj
        split at hk
        · rename_i b hb
          by_cases hbw : b = want
          · have h1 := hk.1 hbw
            rw [put_id (by rw [hb, hbw])] at h1
            exact run (by simp [gVal, hg, hdj, hb, hbw]) h1
          · have hbw' : b = !want := by cases b <;> cases want <;> simp_all
            have h2 := hk.2 hbw'
            rw [put_id (s := s) (by rw [hb, hbw'])] at h2
            exact skp (by simp [gVal, hg, hdj, hb, hbw]) h2
        · rename_i cs hb
          exact skp (by simp [gVal, hg, hdj, hb]) hk
        · exact hk.elim
      · exact hk.elim

theorem draw_sound (hT : T.Ok P) (hm : P.follows .mixedOrders = true) {id : Nat} (ho : orderOk ops = true) {s : St} {K : St → Prop} (hd : ∀ o ∈ ops, ∀ d, o.dst = some d → d < G.n) (hk : drawK P T ops [] ops.toList s K) {Q : Exit → Act → World → Prop}
    (hQ : ∀ s' a' w', K s' → Sim G s' a' w' → Q .normal a' w') {a : Act} {w : World} (hs : Sim G s a w) : (Code.region id ops true).wp P Q a w := by
  obtain ⟨tr, s', ht, hln, hk'⟩ := draw_trace (G := G) hT ops.toList [] s K (fun o h => hd o (by simpa using h)) hk
  refine wp_region_any hm ?_
  obtain ⟨E, hsE⟩ := hs
  have hs1 : Sim G s a w.drew := ⟨E, hsE.ext (Ext.drew w)⟩
  have h0 : ∀ k, (Array.replicate ops.size false).getD k false = false := fun k => by
    rw [Array.getD_eq_getD_getElem?, Array.getElem?_replicate]; split <;> rfl
  have e0 : (fun k => (Array.replicate ops.size false).getD k false) = fun _ => false := funext h0
  refine draw_exec (ordered_of ho) (lined_of (by simpa using hln)) ht hd (fun a w h => hQ s' a w hk' h) ops.size _ a w.drew (by simp) ?_ ?_ ?_
  · rw [e0]; intro j oj hj h; cases h
  · rw [e0]
    have l0 : ∀ n (p : Nat → Bool), lastIdx n (fun k => false && p k) = none := by
      intro n p; induction n with
      | zero => rfl
      | succ n ih => simp only [lastIdx]; simpa using ih
    have e : stD ops tr s (fun _ => false) = s := by
      unfold stD
      have e1 : slotD ops.toList tr s (fun _ => false) = s.sl := by funext t; unfold slotD; rw [l0]
      have e2 : rowsD ops.toList tr s (fun _ => false) = s.rw := by funext k; unfold rowsD; rw [l0]
      rw [e1, e2]
    rw [e]; exact hs1
  · have : (Array.replicate ops.size false).toList.length = ops.size := by simp
    exact Nat.le_trans List.count_le_length (Nat.le_of_eq this)
end

/-! ### code -/

inductive AX where
  | norm
  | exit (id : Nat)
  | ret

def AX.blk (id : Nat) (Q : AX → St → Prop) : AX → St → Prop
  | .norm, s => Q .norm s
  | .ret, s => Q .ret s
  | .exit i, s => if i = id then Q .norm s else Q (.exit i) s
def AX.seq (K : St → Prop) (Q : AX → St → Prop) : AX → St → Prop
  | .norm, s => K s
  | .ret, s => Q .ret s
  | .exit i, s => Q (.exit i) s

/-- A loop: a relation at its head, a measure. -/
def loopK (body : (AX → St → Prop) → St → Prop) (Q : AX → St → Prop) (s : St) : Prop :=
  ∃ (α : Type) (I : α → St → Prop) (μ : α → Nat), (∃ x s0, Wk s s0 ∧ I x s0) ∧
    ∀ x s1, I x s1 → body (AX.seq (fun s2 => ∃ x' s3, Wk s2 s3 ∧ I x' s3 ∧ μ x' < μ x) Q) s1

def cwp (P : Program) (T : Tab) : Code → (AX → St → Prop) → St → Prop
  | .skip, Q, s => Q .norm s
  | .region _ ops draw, Q, s => (match draw with
    | false => opsK P T ops ops.toList s (Q .norm)
    | true => orderOk ops = true ∧ drawK P T ops [] ops.toList s (Q .norm))
  | .seq x y, Q, s => cwp P T x (AX.seq (cwp P T y Q) Q) s
  | .cond c x y, Q, s => (match s.ev c with | .v (.bool b) => (b = true → cwp P T x Q s) ∧ (b = false → cwp P T y Q s) | _ => False)
  | .block id x, Q, s => cwp P T x (AX.blk id Q) s
  | .loop x, Q, s => loopK (cwp P T x) Q s
  | .exit id, Q, s => Q (.exit id) s
  | .ret, Q, s => Q .ret s
  | .label _, Q, s => Q .norm s
  | _, _, _ => False

/-- All destinations of a text lie in the frame. -/
def fits (n : Nat) : Code → Bool
  | .region _ ops _ => ops.all fun o => match o.dst with | some d => decide (d < n) | none => true
  | .seq x y => fits n x && fits n y
  | .cond _ x y => fits n x && fits n y
  | .block _ x => fits n x
  | .loop x => fits n x
  | _ => true

/-- The abstract end as the model's. -/
def lift (G : Ghost) (Q : AX → St → Prop) : Exit → Act → World → Prop
  | .normal, a, w => ∃ s, Sim G s a w ∧ Q .norm s
  | .exit id, a, w => ∃ s, Sim G s a w ∧ Q (.exit id) s
  | .ret, a, w => ∃ s, Sim G s a w ∧ Q .ret s
  | _, _, _ => False

section
variable {P : Program} {T : Tab} {G : Ghost}

theorem cwp_sound (hT : T.Ok P) (hm : P.follows .mixedOrders = true) : ∀ (c : Code), fits G.n c = true → ∀ (Q : AX → St → Prop) (s : St), cwp P T c Q s → ∀ (a : Act) (w : World), Sim G s a w → c.wp P (lift G Q) a w := by
  intro c
  induction c with
  | skip => intro _ Q s hk a w hs; exact wp_skip ⟨s, hs, hk⟩
  | region id ops draw =>
    intro hf Q s hk a w hs
    have hd : ∀ o ∈ ops, ∀ d, o.dst = some d → d < G.n := fun o ho d hod => by
      simp only [fits, Array.all_eq_true'] at hf
      have := hf o ho
      rw [hod] at this
      simpa using this
    cases draw with
    | false =>
      have hk' : opsK P T ops ops.toList s (Q .norm) := hk
      exact wp_region_list (ops_sound hT ops.toList s (Q .norm) (fun o h => hd o (by simpa using h)) hk' (fun s' a' w' hq hs' => ⟨s', hs', hq⟩) a w hs)
    | true =>
      have hk' : orderOk ops = true ∧ drawK P T ops [] ops.toList s (Q .norm) := hk
      exact draw_sound hT hm hk'.1 hd hk'.2 (fun s' a' w' hq hs' => ⟨s', hs', hq⟩) hs
  | seq x y ihx ihy =>
    intro hf Q s hk a w hs
    simp only [fits, Bool.and_eq_true] at hf
    refine wp_seq (wp_mono (ihx hf.1 _ s hk a w hs) fun e a' w' h => ?_)
    cases e with
    | normal => obtain ⟨s', hs', hq⟩ := h; exact ihy hf.2 Q s' hq a' w' hs'
    | exit id => exact h
    | ret => exact h
    | goto l => exact h.elim
    | panic ch => exact h.elim
    | outgrown => exact h.elim
  | cond c x y ihx ihy =>
    intro hf Q s hk a w hs
    simp only [fits, Bool.and_eq_true] at hf
    simp only [cwp] at hk
    split at hk
    · rename_i b hb
      obtain ⟨E, hsE⟩ := hs
      have hv := eval_rep hsE.slots c
      rw [hb] at hv
      refine wp_cond hv.v_eq ?_
      cases b with
      | true => exact ihx hf.1 Q s (hk.1 rfl) a w ⟨E, hsE⟩
      | false => exact ihy hf.2 Q s (hk.2 rfl) a w ⟨E, hsE⟩
    · exact hk.elim
  | block id x ih =>
    intro hf Q s hk a w hs
    refine wp_block (wp_mono (ih hf _ s hk a w hs) fun e a' w' h => ?_)
    cases e with
    | normal => exact h
    | exit i =>
      obtain ⟨s', hs', hq⟩ := h
      simp only [Exit.inBlock]
      simp only [AX.blk] at hq
      by_cases hi : i = id
      · rw [if_pos hi] at hq ⊢; exact ⟨s', hs', hq⟩
      · rw [if_neg hi] at hq ⊢; exact ⟨s', hs', hq⟩
    | ret => exact h
    | goto l => exact h.elim
    | panic ch => exact h.elim
    | outgrown => exact h.elim
  | loop x ih =>
    intro hf Q s hk a w hs
    obtain ⟨α, I, μ, ⟨x0, s0, hw0, hI0⟩, hround⟩ := hk
    -- the measure is a ghost's: told by well-founded induction
    have key : ∀ n x1 s1, μ x1 = n → I x1 s1 → ∀ a w, Sim G s1 a w → ∀ (b : Frame) (k : List Item) (cs : List Frame),
        ∃ e a' w', lift G Q e a' w' ∧ Arrives P (lone (b.at a (.code x :: .inLoop x :: k)) cs w) b k cs e a' w' := by
      intro n
      induction n using Nat.strongRecOn with
      | _ n ihn =>
        intro x1 s1 hn hI a w hs b k cs
        obtain ⟨e, a₁, w₁, hq, harr⟩ := ih hf _ s1 (hround x1 s1 hI) a w hs b (.inLoop x :: k) cs
        cases e with
        | normal =>
          obtain ⟨s2, hs2, x', s3, hw3, hI3, hlt⟩ := hq
          obtain ⟨e₂, a₂, w₂, hq₂, harr₂⟩ := ihn (μ x') (hn ▸ hlt) x' s3 rfl hI3 a₁ w₁ (hw3 G a₁ w₁ hs2) b k cs
          exact ⟨e₂, a₂, w₂, hq₂, .of_steps (Steps.trans harr (.one step_inLoop)) harr₂⟩
        | exit id => exact ⟨.exit id, a₁, w₁, hq, .pass (x := .inLoop x) rfl (fun _ _ => .inl (by simp)) harr⟩
        | ret => exact ⟨.ret, a₁, w₁, hq, .pass (x := .inLoop x) rfl (fun _ _ => .inl (by simp)) harr⟩
        | goto l => exact hq.elim
        | panic ch => exact hq.elim
        | outgrown => exact hq.elim
    intro b k cs
    obtain ⟨e, a', w', hq, harr⟩ := key _ x0 s0 rfl hI0 a w (hw0 G a w hs) b k cs
    exact ⟨e, a', w', hq, .of_steps (.one step_loop) harr⟩
  | exit id => intro _ Q s hk a w hs; exact wp_exit ⟨s, hs, hk⟩
  | ret => intro _ Q s hk a w hs; exact wp_ret ⟨s, hs, hk⟩
  | label l => intro _ Q s hk a w hs; exact wp_label ⟨s, hs, hk⟩
  | rangeFunc _ _ _ _ => intro _ Q s hk; exact hk.elim
  | scope _ _ => intro _ Q s hk; exact hk.elim
  | goto _ => intro _ Q s hk; exact hk.elim
  | refuse _ => intro _ Q s hk; exact hk.elim
end
end Go.Abs
