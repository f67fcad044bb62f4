/- DERIVED by an AI agent. -/
import Derived.Test.YtpnknaaehcljoaaGreatA4
/- DERIVED by an AI agent. A struct written out. No program in sight. -/
namespace Go.Abs
set_option linter.unusedSimpArgs false
set_option linter.unusedVariables false
def fillK (T : Tab) (rw : Nat → Row) (fs : List (Nat × TypeId)) : List (Nat × PV) → List PV → (List PV → Prop) → Prop
  | [], cells, K => K cells
  | (i, p) :: rest, cells, K => match fs[i]? with
    | some (off, ft) => cellsK rw p fun c => c.length = (T ft).size ∧ off + c.length ≤ cells.length ∧ fillK T rw fs rest (spl cells off c) K
    | none => False
def buildVK (T : Tab) (rw : Nat → Row) (ev : Operand → PV) (t : TypeId) (parts : Array (Nat × Operand)) (K : PV → Prop) : Prop :=
  0 < (T t).size ∧ match (T t).k with
  | .struct fs => (∀ x ∈ fs, 0 < (T x.2).size) ∧ fillK T rw fs (parts.toList.map fun x => (x.1, ev x.2)) ((T t).zero.map PV.v) fun c => K (.ag c)
  | _ => False
section
variable {P : Program} {T : Tab} {G : Ghost} {s : St} {E : Env} {a : Act} {w w' : World} {o : Oper}
theorem fillK_sound [Held] {rw : Nat → Row} (hR : E.R = rw) (hw : WOk G E w) {fs : List (Nat × TypeId)} {places : Array (Nat × Nat)} (hpl : ∀ i : Nat, places[i]? = (fs[i]?).map fun x : Nat × TypeId => (x.1, (T x.2).size)) :
    ∀ (pp : List (Nat × PV)) (pv : List (Nat × Value)) (c : List PV) (cs : Array Value) {K : List PV → Prop}, fillK T rw fs pp c K → pp.map (·.1) = pv.map (·.1) → RepL w E 0 (pp.map (·.2)) (pv.map (·.2)) → RepL w E 0 c cs.toList →
      ∃ c' out, K c' ∧ Instr.fill (places[·]?) cs pv = some out ∧ RepL w E 0 c' out.toList := by
  intro pp
  induction pp with
  | nil =>
    intro pv c cs K hk h1 h2 h3
    have : pv = [] := by cases pv <;> simp at h1 ⊢
    subst this
    exact ⟨c, cs, hk, rfl, h3⟩
  | cons x pp ih =>
    intro pv c cs K hk h1 h2 h3
    cases pv with
    | nil => simp at h1
    | cons y pv =>
      obtain ⟨i, p⟩ := x
      obtain ⟨j, v⟩ := y
      simp only [List.map_cons, List.cons.injEq] at h1
      obtain ⟨rfl, h1⟩ := h1
      have hp : Rep w E 0 p v := h2.2 0 (by simp) (by simp)
      have h2' : RepL w E 0 (pp.map (·.2)) (pv.map (·.2)) := ⟨by simpa using h2.1, fun k a b => by
        have := h2.2 (k + 1) (by simp at a ⊢; omega) (by simp at b ⊢; omega)
        simpa using this⟩
      unfold fillK at hk
      split at hk
      · rename_i off ft hfi
        obtain ⟨c1, ⟨hl, hfit, hk⟩, hrep, _⟩ := cellsK_sound hk hR hw hp
        have hvs : v.cells.size = (T ft).size := by rw [← hl, hrep.1]; simp
        have hcs : c.length = cs.size := by rw [h3.1]; simp
        have hset := foldl_set v.cells.toList 0 off cs (by simp [hvs]; omega)
        have hfold : (v.cells.zipIdx.foldl (fun cs (x : Value × Nat) => cs.setIfInBounds (off + x.2) x.1) cs) = (v.cells.toList.zipIdx.foldl (fun cs (x : Value × Nat) => cs.setIfInBounds (off + x.2) x.1) cs) := by
          rw [← Array.foldl_toList, Array.toList_zipIdx]
        obtain ⟨c', out, hK, hfill, hout⟩ := ih pv (spl c off c1) (v.cells.toList.zipIdx.foldl (fun cs (x : Value × Nat) => cs.setIfInBounds (off + x.2) x.1) cs) hk h1 h2' (by
          rw [hset]
          have := spl_rep h3 hrep hfit
          simpa using this)
        refine ⟨c', out, hK, ?_, hout⟩
        simp only [Instr.fill]
        rw [hpl, hfi]
        simp only [Option.map_some]
        rw [if_neg (by simp [hvs]; omega)]
        rw [hfold]
        exact hfill
      · exact hk.elim
theorem places_of (hT : T.Ok P) : ∀ (flds : List Field), (∀ x ∈ flds.map (fun f => (f.offset, f.type)), 0 < (T x.2).size) → flds.mapM (fun f => (P.info? f.type).map fun i => (f.offset, i.size)) = some (flds.map fun f => (f.offset, (T f.type).size)) := by
  intro flds
  induction flds with
  | nil => intro _; rfl
  | cons f flds ih =>
    intro h
    obtain ⟨i, z, hi, hs, _⟩ := (hT f.type (h (f.offset, f.type) (by simp))).info
    have := ih fun x hx => h x (by simp at hx ⊢; exact .inr hx)
    simp [List.mapM_cons, this, hi, hs]
theorem buildV_sound [Held] (hT : T.Ok P) {t : TypeId} {parts : Array (Nat × Operand)} {K : PV → Prop} (ho : o.op = .build t parts) (hk : buildVK T s.rw s.ev t parts K) : ∃ p, K p ∧ Yields P G s o p := by
  obtain ⟨ht, hk⟩ := hk
  split at hk
  · rename_i fs hfs
    obtain ⟨hsz, hk⟩ := hk
    have hu := (hT t ht).k
    rw [hfs] at hu
    obtain ⟨flds, hu, hfl⟩ := hu
    obtain ⟨i, z, hi, hs, hb, hz, hzc⟩ := (hT t ht).info
    have hdet : ∃ c', K (.ag c') ∧ fillK T s.rw fs (parts.toList.map fun x => (x.1, s.ev x.2)) ((T t).zero.map PV.v) (· = c') := by
      have : ∀ (pp : List (Nat × PV)) (c : List PV) (K : List PV → Prop), fillK T s.rw fs pp c K → ∃ c', K c' ∧ fillK T s.rw fs pp c (· = c') := by
        intro pp
        induction pp with
        | nil => intro c K h; exact ⟨c, h, rfl⟩
        | cons x pp ih =>
          intro c K h
          obtain ⟨i, p⟩ := x
          unfold fillK at h ⊢
          split at h
          · rename_i off ft hfi
            unfold cellsK at h ⊢
            split at h <;> first
              | exact h.elim
              | (obtain ⟨a1, a2, h⟩ := h; obtain ⟨c', h1, h2⟩ := ih _ _ h; exact ⟨c', h1, a1, a2, h2⟩)
              | (obtain ⟨q, a1, a2, h⟩ := h; obtain ⟨c', h1, h2⟩ := ih _ _ h; exact ⟨c', h1, q, a1, a2, h2⟩)
              | (obtain ⟨q, q2, a1, a2, h⟩ := h; obtain ⟨c', h1, h2⟩ := ih _ _ h; exact ⟨c', h1, q, q2, a1, a2, h2⟩)
          · exact h.elim
      exact this _ _ _ hk
    obtain ⟨c', hK, hfill⟩ := hdet
    refine ⟨_, hK, fun E a w hR hw hx K' Q hK' => ?_⟩
    have hops : ∀ x ∈ parts.toList, Rep w E 0 (s.ev x.2) (a.eval x.2) := fun x hx' => hx x.2 (by
      simp only [ho, Op.operands, List.mem_toArray, List.mem_map]; exact ⟨x, hx', rfl⟩)
    have hplaces : (flds.toList.map fun f => (f.offset, (T f.type).size)).toArray.toList = fs.map fun x => (x.1, (T x.2).size) := by
      rw [← hfl]; simp
    obtain ⟨c'', out, rfl, hf, hout⟩ := fillK_sound (T := T) hR hw (fs := fs) (places := (flds.toList.map fun f => (f.offset, (T f.type).size)).toArray) (fun j => by
        rw [← Array.getElem?_toList, hplaces, List.getElem?_map]) (parts.toList.map fun x => (x.1, s.ev x.2)) (parts.toList.map fun x => (x.1, a.eval x.2)) ((T t).zero.map PV.v) z.cells hfill (by simp) (by
        have e1 : (parts.toList.map fun x => (x.1, s.ev x.2)).map (·.2) = parts.toList.map fun x => s.ev x.2 := by simp
        have e2 : (parts.toList.map fun x => (x.1, a.eval x.2)).map (·.2) = parts.toList.map fun x => a.eval x.2 := by simp
        rw [e1, e2]
        exact RepL.map fun x hx' => hops x hx') (by
        rw [hzc]
        exact ⟨by simp, fun j p q => by simp; exact .v _⟩)
    have hbuilt : P.built t (parts.map fun x => (x.1, a.eval x.2)).toList = some out := by
      unfold Program.built
      rw [hi, hu]
      simp only [hz]
      rw [places_of hT flds.toList (by rw [hfl]; exact hsz)]
      have e : (parts.map fun x => (x.1, a.eval x.2)).toList = parts.toList.map fun x => (x.1, a.eval x.2) := by simp
      rw [e]
      exact hf
    have hrun : (execOp a.eval o).run P w = .ok (.value (.agg out)) w := by
      have := run_build w t (parts.map fun x => (x.1, a.eval x.2)) out hbuilt
      simp [execOp, ho, this]
    refine wp_of_value hrun (hK' _ _ (Ext.refl w) ?_)
    have e : out = out.toList.toArray := by simp
    rw [e]
    exact .ag hout.1 fun i p q => hout.2 i p q
  · exact hk.elim
end
end Go.Abs

/- DERIVED by an AI agent. Rows given over to a callee that writes into them. No program in sight. -/
namespace Go.Abs
set_option linter.unusedSimpArgs false
set_option linter.unusedVariables false
structure LR where
  e : Nat
  sz : Nat
  c : List PV
def inR (ins : List LR) (k : Nat) : Row := if lent ≤ k then (match ins[k - lent]? with | some r => ⟨1, .sli r.e r.sz false r.c⟩ | none => ⟨0, .dead⟩) else ⟨0, .dead⟩
def plain (c : List PV) : Prop := ∀ p ∈ c, isV p = true
def AM [Held] (P : Program) (f : FuncId) (args : List PV) (ins : List LR) (outs : List (List PV)) (x : Value) : Prop :=
  Enters P f ∧ (∀ r ∈ ins, plain r.c) ∧ outs.length = ins.length ∧ (∀ c ∈ outs, plain c) ∧
    ∀ (w : World) (M : Nat → Nat → Prop) (E : Env) (vals : List Value), WOk ⟨w, M, 0, E.R, E.rm, E.rv, E.X⟩ E w → E.R = inR ins → RepL w E 0 args vals →
      Calls P f vals.toArray w fun e w' => e = .returned x ∧ ∃ E', WOk ⟨w, M, 0, E.R, E.rm, E.rv, E.X⟩ E' w' ∧
        ∀ (i : Nat) (r : LR) (c : List PV), ins[i]? = some r → outs[i]? = some c → E'.R (lent + i) = ⟨1, .sli r.e r.sz false c⟩
inductive GiveL (js : List (Nat × Nat)) : List PV → List PV → Prop
  | nil : GiveL js [] []
  | v {x : Value} {l l' : List PV} : GiveL js l l' → GiveL js (.v x :: l) (.v x :: l')
  | clo {f : FuncId} {l l' : List PV} : GiveL js l l' → GiveL js (.clo f [] :: l) (.clo f [] :: l')
  | own {k ver : Nat} {l l' : List PV} (i : Nat) : js[i]? = some (k, ver) → GiveL js l l' → GiveL js (.own k ver :: l) (.own (lent + i) 1 :: l')
  | ag {c c' l l' : List PV} : GiveL js c c' → GiveL js l l' → GiveL js (.ag c :: l) (.ag c' :: l')
def HeldL (rw : Nat → Row) : List (Nat × Nat) → List LR → Prop
  | [], [] => True
  | j :: js, r :: ins => rw j.1 = ⟨j.2, .sli r.e r.sz false r.c⟩ ∧ HeldL rw js ins
  | _, _ => False
def wroteF (R : Nat → Row) (js : List (Nat × Nat)) (ins : List LR) (outs : List (List PV)) (k : Nat) : Row :=
  match js.findIdx? (fun j => j.1 == k) with
  | some i => (match js[i]?, ins[i]?, outs[i]? with | some j, some r, some c => ⟨j.2, .sli r.e r.sz false c⟩ | _, _, _ => R k)
  | none => R k
def St.wrote (s : St) (js : List (Nat × Nat)) (ins : List LR) (outs : List (List PV)) : St := { s with rw := wroteF s.rw js ins outs }
def askM [Held] (P : Program) (s : St) (g : FuncId) (raw : List PV) (dst : Option Nat) (K : St → Prop) : Prop :=
  ∃ (js : List (Nat × Nat)) (ins : List LR) (args : List PV) (outs : List (List PV)) (x : Value),
    AM P g args ins outs x ∧ GiveL js raw args ∧ HeldL s.rw js ins ∧ (js.map (·.1)).Nodup ∧ K ((s.wrote js ins outs).put dst (.v x))
def callM [Held] (P : Program) (s : St) (f : Operand) (args : Array Operand) (dst : Option Nat) (K : St → Prop) : Prop :=
  match s.ev f with
  | .clo g caps => askM P s g (args.toList.map s.ev ++ caps) dst K
  | _ => False
theorem HeldL.at {rw : Nat → Row} : ∀ {js : List (Nat × Nat)} {ins : List LR}, HeldL rw js ins → js.length = ins.length ∧ ∀ (i : Nat) (j : Nat × Nat) (r : LR), js[i]? = some j → ins[i]? = some r → rw j.1 = ⟨j.2, .sli r.e r.sz false r.c⟩ := by
  intro js
  induction js with
  | nil => intro ins h; cases ins with
    | nil => exact ⟨rfl, fun i j r h => by simp at h⟩
    | cons _ _ => exact h.elim
  | cons j js ih =>
    intro ins h
    cases ins with
    | nil => exact h.elim
    | cons r ins =>
      obtain ⟨h1, h2⟩ := h
      obtain ⟨a, b⟩ := ih h2
      refine ⟨by simp [a], fun i j' r' hj hr => ?_⟩
      cases i with
      | zero => simp at hj hr; subst hj; subst hr; exact h1
      | succ i => exact b i j' r' (by simpa using hj) (by simpa using hr)
theorem wroteF_at {R : Nat → Row} {js : List (Nat × Nat)} {ins : List LR} {outs : List (List PV)} (hn : (js.map (·.1)).Nodup) {i : Nat} {j : Nat × Nat} {r : LR} {c : List PV} (hj : js[i]? = some j) (hr : ins[i]? = some r) (hc : outs[i]? = some c) :
    wroteF R js ins outs j.1 = ⟨j.2, .sli r.e r.sz false c⟩ := by
  have hi : i < js.length := (List.getElem?_eq_some_iff.1 hj).1
  have hji : js[i] = j := (List.getElem?_eq_some_iff.1 hj).2
  have : js.findIdx? (fun x => x.1 == j.1) = some i := by
    rw [List.findIdx?_eq_some_iff_getElem]
    refine ⟨hi, by simp [hji], fun k hk => ?_⟩
    have hp := List.pairwise_iff_getElem.1 hn k i (by simp; omega) (by simp; omega) hk
    simp only [List.getElem_map, hji] at hp
    simpa using hp
  unfold wroteF
  rw [this]
  simp only [hj, hr, hc]
theorem wroteF_not {R : Nat → Row} {js : List (Nat × Nat)} {ins : List LR} {outs : List (List PV)} {k : Nat} (h : k ∉ js.map (·.1)) : wroteF R js ins outs k = R k := by
  have : js.findIdx? (fun x => x.1 == k) = none := by
    rw [List.findIdx?_eq_none_iff]
    intro x hx
    have : x.1 ≠ k := fun e => h (List.mem_map.2 ⟨x, hx, e⟩)
    simpa using this
  unfold wroteF
  rw [this]
theorem plain_rep [Held] {w w' : World} {E E' : Env} {lo lo' : Nat} {c : List PV} {vs : List Value} (h : plain c) (hr : RepL w E lo c vs) : RepL w' E' lo' c vs :=
  ⟨hr.1, fun i a b => (isV_rep (h _ (List.getElem_mem a)) (hr.2 i a b)).1⟩
section
variable {P : Program} {G : Ghost} {s : St}
def Env.give (E : Env) (js : List (Nat × Nat)) (ins : List LR) (B : Nat) : Env :=
  let R := inR ins
  let rm := fun k => if lent ≤ k then (js[k - lent]?).bind fun j => E.rm j.1 else none
  { R := R, rm := rm, rv := fun k => if lent ≤ k then (match js[k - lent]? with | some j => E.rv j.1 | none => default) else default, L := mkL (fun _ => False) R rm, B := B, X := fun _ => False }
theorem inR_nd {ins : List LR} {k : Nat} (h : (inR ins k).kind.nd = true) : lent ≤ k ∧ ∃ r, ins[k - lent]? = some r ∧ inR ins k = ⟨1, .sli r.e r.sz false r.c⟩ := by
  unfold inR at h ⊢
  by_cases hk : lent ≤ k
  · rw [if_pos hk] at h ⊢
    split at h
    · rename_i r hr; exact ⟨hk, r, hr, rfl⟩
    · cases h
  · rw [if_neg hk] at h; cases h
theorem inR_at {ins : List LR} {i : Nat} {r : LR} (h : ins[i]? = some r) : inR ins (lent + i) = ⟨1, .sli r.e r.sz false r.c⟩ := by
  unfold inR
  rw [if_pos (by omega), Nat.add_sub_cancel_left, h]
def giveM (E : Env) (js : List (Nat × Nat)) (k b : Nat) : Prop := ∃ j, js[k - lent]? = some j ∧ E.rm j.1 = some b
theorem give_ok [Held] {E : Env} {w : World} (hw : WOk G E w) {js : List (Nat × Nat)} {ins : List LR} (hh : HeldL E.R js ins) (hn : (js.map (·.1)).Nodup) (hp : ∀ r ∈ ins, plain r.c) :
    WOk ⟨w, giveM E js, 0, (E.give js ins w.heap.size).R, (E.give js ins w.heap.size).rm, (E.give js ins w.heap.size).rv, (E.give js ins w.heap.size).X⟩ (E.give js ins w.heap.size) w := by
  obtain ⟨hlen, hat⟩ := hh.at
  have key0 : ∀ (n : Nat) (r : LR), ins[n]? = some r → ∃ j, js[n]? = some j ∧ E.R j.1 = ⟨j.2, .sli r.e r.sz false r.c⟩ := fun n r hr => by
    have hi : n < js.length := by rw [hlen]; exact (List.getElem?_eq_some_iff.1 hr).1
    exact ⟨_, List.getElem?_eq_getElem hi, hat _ _ _ (List.getElem?_eq_getElem hi) hr⟩
  have hmx : ∀ k b, giveM E js k b → ¬ Held.Gl b := fun k b ⟨j, hj, hb⟩ => by
    have hi : k - lent < ins.length := by rw [← hlen]; exact (List.getElem?_eq_some_iff.1 hj).1
    exact hw.ngl hb (by rw [hat _ _ _ hj (List.getElem?_eq_getElem hi)]; rfl)
  have key : ∀ (k : Nat) (r : LR), lent ≤ k → ins[k - lent]? = some r → ∃ j, js[k - lent]? = some j ∧ E.R j.1 = ⟨j.2, .sli r.e r.sz false r.c⟩ := fun k r _ hr => key0 _ r hr
  refine ⟨fun k => ?_, fun k k' b n1 n2 e1 e2 => ?_, fun b => Iff.rfl, fun k h => ?_, rfl, rfl, ⟨fun b h => h.elim, hmx, hw.held⟩, fun k b _ _ h => h, ⟨rfl, rfl, OutLe.refl _, Nat.le_refl _, fun _ _ _ => rfl⟩, fun k => ⟨Nat.le_refl _, fun _ h => ⟨h, rfl, fun h => ⟨h, rfl⟩⟩⟩⟩
  · show RowOk w (E.give js ins w.heap.size) _ k
    unfold RowOk
    show match (inR ins k).kind with | .dead => True | .nil => _ | .box t cells => _ | .sli e sz _ cells => _ | .tab e cells => _
    cases hd : (inR ins k).kind with
    | dead => trivial
    | _ =>
      obtain ⟨hk, r, hr, he⟩ := inR_nd (ins := ins) (k := k) (by rw [hd]; rfl)
      rw [he] at hd
      cases hd
      all_goals
        obtain ⟨j, hj, hrow⟩ := key k r hk hr
        have h0 := hw.rows j.1
        unfold RowOk at h0
        rw [hrow] at h0
        simp only at h0
        have em : (E.give js ins w.heap.size).rm k = E.rm j.1 := by simp [Env.give, hk, hj]
        have ev : (E.give js ins w.heap.size).rv k = E.rv j.1 := by simp [Env.give, hk, hj]
        rw [em, ev]
        rcases h0 with h0 | ⟨b, n, cap, vs, rest, h1, h2, h3, h4, h5, h6, h7, h8, h9⟩
        · exact .inl h0
        · exact .inr ⟨b, n, cap, vs, rest, h1, .inr ⟨hk, j, hj, h1⟩, h3, h4, h5, h6, h7, h8, plain_rep (hp r (List.mem_of_getElem? hr)) h9⟩
  · obtain ⟨hk, r, hr, _⟩ := inR_nd (ins := ins) (k := k) n1
    obtain ⟨hk', r', hr', _⟩ := inR_nd (ins := ins) (k := k') n2
    obtain ⟨j, hj, hrow⟩ := key k r hk hr
    obtain ⟨j', hj', hrow'⟩ := key k' r' hk' hr'
    have e1' : E.rm j.1 = some b := by simpa [Env.give, hk, hj] using e1
    have e2' : E.rm j'.1 = some b := by simpa [Env.give, hk', hj'] using e2
    have := hw.inj j.1 j'.1 b (by rw [hrow]; rfl) (by rw [hrow']; rfl) e1' e2'
    have hi := (List.getElem?_eq_some_iff.1 hj)
    have hi' := (List.getElem?_eq_some_iff.1 hj')
    obtain ⟨a1, a2⟩ := hi
    obtain ⟨b1, b2⟩ := hi'
    have : k - lent = k' - lent := (List.getElem_inj (h₀ := by simp; omega) (h₁ := by simp; omega) hn).1 (by simp [a2, b2, this])
    omega
  · obtain ⟨hk, r, hr, he⟩ := inR_nd (ins := ins) (k := k) h
    show 0 < (inR ins k).ver
    rw [he]; exact Nat.one_pos
theorem give_rep [Held] {E : Env} {w : World} {js : List (Nat × Nat)} {ins : List LR} (hh : HeldL E.R js ins) (B : Nat) {raw args : List PV} (hg : GiveL js raw args) : ∀ {vals : List Value}, RepL w E 0 raw vals → RepL w (E.give js ins B) 0 args vals := by
  obtain ⟨hlen, hat⟩ := hh.at
  induction hg with
  | nil => intro vals h; exact ⟨h.1, fun i a => absurd a (by simp)⟩
  | @v x l l' _ ih =>
    intro vals h
    cases vals with
    | nil => simp [RepL] at h
    | cons y ys =>
      have h0 := h.2 0 (by simp) (by simp)
      simp only [List.getElem_cons_zero] at h0
      have := h0.v_eq; subst this
      have ht := ih (vals := ys) ⟨by simpa using h.1, fun i a b => h.2 (i + 1) (by simpa using a) (by simpa using b)⟩
      refine ⟨by simp [ht.1], fun i a b => ?_⟩
      cases i with
      | zero => exact .v _
      | succ i => exact ht.2 i (by simpa using a) (by simpa using b)
  | @clo f l l' _ ih =>
    intro vals h
    cases vals with
    | nil => simp [RepL] at h
    | cons y ys =>
      have h0 := h.2 0 (by simp) (by simp)
      simp only [List.getElem_cons_zero] at h0
      have ht := ih (vals := ys) ⟨by simpa using h.1, fun i a b => h.2 (i + 1) (by simpa using a) (by simpa using b)⟩
      refine ⟨by simp [ht.1], fun i a b => ?_⟩
      cases i with
      | zero => cases h0 with | clo hl _ => exact .clo hl (fun i h => absurd h (by simp))
      | succ i => exact ht.2 i (by simpa using a) (by simpa using b)
  | @own k ver l l' i hj _ ih =>
    intro vals h
    cases vals with
    | nil => simp [RepL] at h
    | cons y ys =>
      have h0 := h.2 0 (by simp) (by simp)
      simp only [List.getElem_cons_zero] at h0
      have ht := ih (vals := ys) ⟨by simpa using h.1, fun i a b => h.2 (i + 1) (by simpa using a) (by simpa using b)⟩
      refine ⟨by simp [ht.1], fun i' a b => ?_⟩
      cases i' with
      | zero =>
        have hi : i < ins.length := by rw [← hlen]; exact (List.getElem?_eq_some_iff.1 hj).1
        have hr : ins[i]? = some ins[i] := List.getElem?_eq_getElem hi
        have hrow := hat i _ _ hj hr
        cases h0 with
        | own hv hx =>
          refine .own ?_ fun _ _ => ?_
          · show 1 ≤ (inR ins (lent + i)).ver
            rw [inR_at hr]; exact Nat.le_refl _
          · have hx' := hx (by rw [hrow]) (by rw [hrow]; rfl)
            show y = _
            rw [hx']
            simp [Env.give, hj]
      | succ i' => exact ht.2 i' (by simpa using a) (by simpa using b)
  | @ag c c' l l' _ _ ih1 ih2 =>
    intro vals h
    cases vals with
    | nil => simp [RepL] at h
    | cons y ys =>
      have h0 := h.2 0 (by simp) (by simp)
      simp only [List.getElem_cons_zero] at h0
      have ht := ih2 (vals := ys) ⟨by simpa using h.1, fun i a b => h.2 (i + 1) (by simpa using a) (by simpa using b)⟩
      refine ⟨by simp [ht.1], fun i a b => ?_⟩
      cases i with
      | zero =>
        cases h0 with
        | @ag _ _ _ vs hl hh =>
          have h1 := ih1 (vals := vs) ⟨hl, hh⟩
          exact .ag h1.1 h1.2
      | succ i => exact ht.2 i (by simpa using a) (by simpa using b)
theorem wrote_turn [Held] {E E' : Env} {w w' : World} (hw : WOk G E w) {js : List (Nat × Nat)} {ins : List LR} {outs : List (List PV)} (hh : HeldL E.R js ins) (hn : (js.map (·.1)).Nodup) (hlo : outs.length = ins.length) (hpl : ∀ c ∈ outs, plain c)
    (hw' : WOk ⟨w, giveM E js, 0, (E.give js ins w.heap.size).R, (E.give js ins w.heap.size).rm, (E.give js ins w.heap.size).rv, (E.give js ins w.heap.size).X⟩ E' w')
    (hE : ∀ (i : Nat) (r : LR) (c : List PV), ins[i]? = some r → outs[i]? = some c → E'.R (lent + i) = ⟨1, .sli r.e r.sz false c⟩) {a : Act} (hs : SimE G E s a w) : Sim G (s.wrote js ins outs) a w' := by
  obtain ⟨hlen, hat⟩ := hh.at
  let E2 : Env := { R := wroteF E.R js ins outs, rm := E.rm, rv := E.rv, L := mkL E.X (wroteF E.R js ins outs) E.rm, B := E.B, X := E.X }
  have hin : ∀ k, k ∈ js.map (·.1) → ∃ (i : Nat) (j : Nat × Nat) (r : LR) (c : List PV), js[i]? = some j ∧ ins[i]? = some r ∧ outs[i]? = some c ∧ j.1 = k ∧ E.R k = ⟨j.2, .sli r.e r.sz false r.c⟩ ∧ wroteF E.R js ins outs k = ⟨j.2, .sli r.e r.sz false c⟩ := by
    intro k hk
    obtain ⟨j, hj, rfl⟩ := List.mem_map.1 hk
    obtain ⟨i, hi, rfl⟩ := List.getElem_of_mem hj
    have h1 : js[i]? = some js[i] := List.getElem?_eq_getElem hi
    have h2 : ins[i]? = some ins[i] := List.getElem?_eq_getElem (by omega)
    have h3 : outs[i]? = some outs[i] := List.getElem?_eq_getElem (by omega)
    exact ⟨i, _, _, _, h1, h2, h3, rfl, hat i _ _ h1 h2, wroteF_at hn h1 h2 h3⟩
  have ht : Turn G E E2 w w' (· ∈ js.map (·.1)) := by
    refine ⟨rfl, rfl, rfl, fun k hk => ⟨wroteF_not hk, rfl, rfl⟩, fun b hb hD => ?_, fun k b hD hb hnd => ?_, fun k hD => ?_, fun k hD _ hs => ?_, fun k hD _ hs => ?_, fun k hD hs => ?_, fun k k' b hD hD' h1 h2 e1 e2 => ?_, hw'.kept.size, hw'.kept.os, hw'.kept.tape, hw'.kept.output⟩
    · refine hw'.kept.block b hb fun k0 hM => ?_
      obtain ⟨j, hj0, hjb⟩ := hM
      have hj := List.mem_of_getElem? hj0
      have hmem : j.1 ∈ js.map (·.1) := List.mem_map.2 ⟨j, hj, rfl⟩
      obtain ⟨i, j', r, c, _, _, _, _, h5, _⟩ := hin _ hmem
      have := hD j.1 hmem hjb
      rw [h5] at this; cases this
    · obtain ⟨i, j, r, c, _, _, _, _, h5, h6⟩ := hin k hD
      exact .inr ⟨hb, by rw [h5]; rfl, fun _ => by rw [h5]; rfl⟩
    · obtain ⟨i, j, r, c, _, _, _, _, h5, h6⟩ := hin k hD
      show _ ≤ (wroteF E.R js ins outs k).ver
      rw [h5, h6]; exact Nat.le_refl _
    · obtain ⟨i, j, r, c, _, _, _, _, h5, h6⟩ := hin k hD
      exact ⟨by rw [h5]; rfl, rfl⟩
    · obtain ⟨i, j, r, c, _, _, _, _, h5, h6⟩ := hin k hD
      exact ⟨by rw [h5]; rfl, rfl⟩
    · obtain ⟨i, j, r, c, _, _, _, _, h5, h6⟩ := hin k hD
      have := hw.pos k (by rw [h5]; rfl)
      rw [h5] at this
      show 0 < (wroteF E.R js ins outs k).ver
      rw [h6]; exact this
    · obtain ⟨_, _, _, _, _, _, _, _, h5, _⟩ := hin k hD
      obtain ⟨_, _, _, _, _, _, _, _, h5', _⟩ := hin k' hD'
      exact hw.inj k k' b (by rw [h5]; rfl) (by rw [h5']; rfl) e1 e2
  have hrows : ∀ k, k ∈ js.map (·.1) → RowOk w' E2 G.C k := by
    intro k hk
    obtain ⟨i, j, r, c, h1, h2, h3, h4, h5, h6⟩ := hin k hk
    have hrow' := hw'.rows (lent + i)
    unfold RowOk at hrow'
    rw [hE i r c h2 h3] at hrow'
    simp only at hrow'
    have hpin := (hw'.pin (lent + i)).2 (by
      rw [hE i r c h2 h3]
      show 1 = (inR ins (lent + i)).ver
      rw [inR_at h2]) (by rw [hE i r c h2 h3]; rfl)
    obtain ⟨_, q1, q2⟩ := hpin
    have q2 := (q2 (by rw [hE i r c h2 h3]; rfl)).2
    have q1' : E'.rm (lent + i) = E.rm k := by rw [q1]; simp [Env.give, h1, h4]
    have q2' : E'.rv (lent + i) = E.rv k := by rw [q2]; simp [Env.give, h1, h4]
    rw [q1', q2'] at hrow'
    unfold RowOk
    show match (wroteF E.R js ins outs k).kind with | .dead => True | .nil => _ | .box t cells => _ | .sli e sz _ cells => _ | .tab e cells => _
    rw [h6]
    rcases hrow' with hr | ⟨b, n, cap, vs, rest, g1, g2, g3, g4, g5, g6, g7, g8, g9⟩
    · exact .inl hr
    · have hnd : (E.R k).kind.nd = true := by rw [h5]; rfl
      exact .inr ⟨b, n, cap, vs, rest, g1, (hw.block g1 hnd).2, g3, g4, g5, g6, g7, g8, plain_rep (hpl c (List.mem_of_getElem? h3)) g9⟩
  have key := ht.sim hs hrows
  have e : ({ s with rw := E2.R } : St) = s.wrote js ins outs := by
    show ({ s with rw := wroteF E.R js ins outs } : St) = _
    rw [hs.rw]; rfl
  exact ⟨_, e ▸ key⟩
theorem callM_sound [Held] {o : Oper} {c : Call} {f : Operand} {K : St → Prop} (ho : o.op = .call c) (hc : c.callee = .value f) (hd : ∀ d, o.dst = some d → d < G.n) (hk : callM P s f c.args o.dst K) :
    ∃ s', K s' ∧ Effects P G s o s' := by
  unfold callM at hk
  split at hk
  · rename_i g caps hev
    obtain ⟨js, ins, args, outs, x, ham, hg, hh, hn, hk⟩ := hk
    refine ⟨_, hk, fun a w ⟨E, hs⟩ K' Q hK => ?_⟩
    have hfx := eval_rep hs.slots f
    rw [hev] at hfx
    generalize hvf : a.eval f = vf at hfx
    cases hfx with
    | @clo _ _ _ _ vs hl hh' =>
      obtain ⟨hent, hpi, hlo, hpo, hcall⟩ := ham
      have hh2 : HeldL E.R js ins := by rw [hs.rw]; exact hh
      have hraw : RepL w E 0 (c.args.toList.map s.ev ++ caps) (c.args.toList.map a.eval ++ vs) :=
        RepL.append (RepL.map fun x _ => eval_rep hs.slots x) ⟨hl, hh'⟩
      have hcall := hcall w (giveM E js) (E.give js ins w.heap.size) _ (give_ok hs.wok hh2 hn hpi) rfl (give_rep hh2 w.heap.size hg hraw)
      unfold Oper.wp
      rw [run_call ho hc hvf hent]
      show Calls P g _ w _
      refine hcall.mono fun e w' ⟨he, E', hw', hE'⟩ => ?_
      subst he
      obtain ⟨E2, hs2⟩ := wrote_turn hs.wok hh2 hn hlo hpo hw' hE' hs
      exact hK _ _ ⟨E2, hs2.put hd (.v x)⟩
  · exact hk.elim
end
end Go.Abs

/- DERIVED by an AI agent. Tables given over to a callee that writes into them. No program in sight. -/
namespace Go.Abs
set_option linter.unusedSimpArgs false
set_option linter.unusedVariables false
def sid (k j : Nat) : Nat := leafId k (j + 1)
theorem sid_eq (k j : Nat) : sid k j = k + 1000 * (j + 1) := rfl
theorem sid_mod [Held] (k j : Nat) : sid k j % 1000 = k % 1000 := by rw [sid_eq]; omega
theorem sid_inj [Held] (k j j' : Nat) : (sid k j = sid k j') = (j = j') := by rw [sid_eq, sid_eq]; exact propext ⟨fun h => by omega, fun h => by omega⟩
theorem sid_ne1 [Held] (n k j : Nat) (h : n < k + 1000) : (n = sid k j) = False := eq_false (by rw [sid_eq]; omega)
theorem sid_ne2 [Held] (n k j : Nat) (h : n < k + 1000) : (sid k j = n) = False := eq_false (by rw [sid_eq]; omega)
theorem sid_lent [Held] {k j : Nat} (h : k < 1000) (hj : j < 998) : sid k j < lent := by rw [sid_eq]; unfold lent; omega
def cellsT (k : Nat) (p : List Nat) : List PV := p.map fun j => .own (sid k j) 1
theorem cellsT_length (k : Nat) (p : List Nat) : (cellsT k p).length = p.length := by simp [cellsT]
theorem spl_one {c : List PV} {i : Nat} {x : PV} (_h : i < c.length) : spl c i [x] = c.set i x := rfl
structure TabIs (rw : Nat → Row) (k v e e2 : Nat) (p : List Nat) (rows : List (List PV)) : Prop where
  top : rw k = ⟨v, .tab e (cellsT k p)⟩
  len : p.length = rows.length
  row : ∀ i, i < p.length → rw (sid k (p.getD i 0)) = ⟨1, .sli e2 1 false (rows.getD i [])⟩
def plainT (rows : List (List PV)) : Prop := ∀ i, i < rows.length → plain (rows.getD i [])
def inT (e e2 : Nat) (rows : List (List PV)) (k : Nat) : Row :=
  if k = lent then ⟨1, .tab e (cellsT lent (List.range rows.length))⟩
  else if lent < k ∧ (k - lent) % 1000 = 0 ∧ (k - lent) / 1000 - 1 < rows.length then ⟨1, .sli e2 1 false (rows.getD ((k - lent) / 1000 - 1) [])⟩ else ⟨0, .dead⟩
section
variable {e e2 : Nat} {rows : List (List PV)}
theorem sid_gt [Held] (i : Nat) : lent < sid lent i ∧ (sid lent i - lent) % 1000 = 0 ∧ (sid lent i - lent) / 1000 - 1 = i := by rw [sid_eq]; omega
theorem inT_top : inT e e2 rows lent = ⟨1, .tab e (cellsT lent (List.range rows.length))⟩ := by unfold inT; rw [if_pos rfl]
theorem inT_row [Held] {i : Nat} (h : i < rows.length) : inT e e2 rows (sid lent i) = ⟨1, .sli e2 1 false (rows.getD i [])⟩ := by
  obtain ⟨h1, h2, h3⟩ := sid_gt i
  unfold inT
  rw [if_neg (by omega), if_pos ⟨h1, h2, by omega⟩, h3]
theorem inT_lo {k : Nat} (h : k < lent) : inT e e2 rows k = ⟨0, .dead⟩ := by
  unfold inT
  rw [if_neg (by omega), if_neg (by omega)]
theorem inT_nd [Held] {k : Nat} (h : (inT e e2 rows k).kind.nd = true) : k = lent ∨ ∃ i, i < rows.length ∧ k = sid lent i := by
  unfold inT at h
  split at h
  · exact .inl ‹_›
  · split at h
    · rename_i h1 h2
      exact .inr ⟨_, h2.2.2, by rw [sid_eq]; omega⟩
    · cases h
end
inductive TR where
  | self
  | selfx (x : Value)
  | rv (r : RV)
def TR.ok (N : Nat) (x0 : Value) (w' : World) (v : Value) (lv : List (Value × Option Nat)) : TR → Prop
  | .self => v = x0
  | .selfx x => v = .tuple #[x0, x]
  | .rv r => OutR w' (Env.out N (blk lv)) r v lv ∧ (blk lv).Nodup
def AT [Held] (P : Program) (f : FuncId) (args : List PV) (e e2 : Nat) (rows rows' : List (List PV)) (res : TR) : Prop :=
  Enters P f ∧ plainT rows ∧ plainT rows' ∧ rows'.length = rows.length ∧
    ∀ (w : World) (M : Nat → Nat → Prop) (E : Env) (vals : List Value), WOk ⟨w, M, 0, E.R, E.rm, E.rv, E.X⟩ E w → E.R = inT e e2 rows → RepL w E 0 args vals →
      Calls P f vals.toArray w fun en w' => ∃ (E' : Env) (q : List Nat) (v : Value) (lv : List (Value × Option Nat)), en = .returned v ∧ WOk ⟨w, M, 0, E.R, E.rm, E.rv, E.X⟩ E' w' ∧
        TabIs E'.R lent 1 e e2 q rows' ∧ q.Perm (List.range rows.length) ∧ res.ok w.heap.size (E.rv lent) w' v lv
def tabF (R : Nat → Row) (k v e e2 : Nat) (p : List Nat) (rows : List (List PV)) (j : Nat) : Row :=
  if j = k then ⟨v, .tab e (cellsT k p)⟩ else match p.findIdx? (fun x => sid k x == j) with | some i => ⟨1, .sli e2 1 false (rows.getD i [])⟩ | none => R j
def St.tabbed (s : St) (k v e e2 : Nat) (p : List Nat) (rows : List (List PV)) : St := { s with rw := tabF s.rw k v e e2 p rows }
section
variable {R : Nat → Row} {k v e e2 : Nat} {p : List Nat} {rows : List (List PV)}
theorem sid_ne [Held] (k x : Nat) : sid k x ≠ k := by rw [sid_eq]; omega
theorem sid_inj' [Held] {k x y : Nat} (h : sid k x = sid k y) : x = y := by rw [sid_eq, sid_eq] at h; omega
theorem tabF_top : tabF R k v e e2 p rows k = ⟨v, .tab e (cellsT k p)⟩ := by unfold tabF; rw [if_pos rfl]
theorem tabF_row [Held] (hn : p.Nodup) {i : Nat} (h : i < p.length) : tabF R k v e e2 p rows (sid k (p.getD i 0)) = ⟨1, .sli e2 1 false (rows.getD i [])⟩ := by
  have hg : p.getD i 0 = p[i] := by simp [List.getD, h]
  have hf : p.findIdx? (fun x => sid k x == sid k (p.getD i 0)) = some i := by
    rw [List.findIdx?_eq_some_iff_getElem]
    refine ⟨h, by rw [hg]; exact beq_self_eq_true _, fun j hj => ?_⟩
    have hp := List.pairwise_iff_getElem.1 hn j i (by omega) h hj
    simp only [hg, beq_iff_eq]
    exact fun e => hp (sid_inj' e)
  unfold tabF
  rw [if_neg (sid_ne k _), hf]
theorem tabF_other {j : Nat} (h1 : j ≠ k) (h2 : ∀ x ∈ p, j ≠ sid k x) : tabF R k v e e2 p rows j = R j := by
  have hf : p.findIdx? (fun x => sid k x == j) = none := by
    rw [List.findIdx?_eq_none_iff]
    intro x hx
    have := h2 x hx
    simp only [beq_eq_false_iff_ne, ne_eq]
    exact fun e => this e.symm
  unfold tabF
  rw [if_neg h1, hf]
end
def TR.next (s : St) (k v : Nat) (dst : Option Nat) (K : St → Prop) : TR → Prop
  | .self => K (s.put dst (.own k v))
  | .selfx x => K (s.put dst (.tup [.own k v, .v x]))
  | .rv r => match dst with | some d => d % 1000 ≠ k % 1000 ∧ K (adoptSt s d r) | none => K s
def askT [Held] (P : Program) (s : St) (g : FuncId) (raw : List PV) (dst : Option Nat) (K : St → Prop) : Prop :=
  ∃ (k v e e2 : Nat) (p : List Nat) (rows rows' : List (List PV)) (args : List PV) (res : TR),
    AT P g args e e2 rows rows' res ∧ GiveL [(k, v)] raw args ∧ TabIs s.rw k v e e2 p rows ∧ p.Nodup ∧
    ∀ p' : List Nat, p'.Perm p → res.next (s.tabbed k v e e2 p' rows') k v dst K
def rhoT (k : Nat) (p : List Nat) (j : Nat) : Nat := if j = lent then k else sid k (p.getD ((j - lent) / 1000 - 1) 0)
theorem rhoT_top (k : Nat) (p : List Nat) : rhoT k p lent = k := by unfold rhoT; rw [if_pos rfl]
theorem rhoT_row [Held] (k : Nat) (p : List Nat) (i : Nat) : rhoT k p (sid lent i) = sid k (p.getD i 0) := by
  obtain ⟨h1, h2, h3⟩ := sid_gt i
  unfold rhoT; rw [if_neg (by omega), h3]
def Env.giveT (E : Env) (k : Nat) (p : List Nat) (R : Nat → Row) (B : Nat) : Env :=
  { R := R, rm := fun j => if lent ≤ j then E.rm (rhoT k p j) else none, rv := fun j => if lent ≤ j then E.rv (rhoT k p j) else default, L := mkL (fun _ => False) R (fun j => if lent ≤ j then E.rm (rhoT k p j) else none), B := B, X := fun _ => False }
def giveMT (E : Env) (k : Nat) (p : List Nat) (j b : Nat) : Prop := (j = lent ∧ E.rm k = some b) ∨ ∃ i, i < p.length ∧ j = sid lent i ∧ E.rm (sid k (p.getD i 0)) = some b
section
variable {P : Program} {G : Ghost} {s : St} {E : Env} {w : World} {k v e e2 B : Nat} {p : List Nat} {rows rows' : List (List PV)} {R : Nat → Row}
theorem giveT_R : (E.giveT k p R B).R = R := rfl
theorem giveT_top [Held] : (E.giveT k p R B).rm lent = E.rm k ∧ (E.giveT k p R B).rv lent = E.rv k := by
  simp only [Env.giveT, Nat.le_refl, if_true, rhoT_top, and_self]
theorem giveT_row [Held] (i : Nat) : (E.giveT k p R B).rm (sid lent i) = E.rm (sid k (p.getD i 0)) ∧ (E.giveT k p R B).rv (sid lent i) = E.rv (sid k (p.getD i 0)) := by
  have h := (sid_gt i).1
  simp only [Env.giveT, Nat.le_of_lt h, if_true, rhoT_row, and_self]
theorem getD_memN {l : List Nat} {i : Nat} (h : i < l.length) : l.getD i 0 ∈ l := by
  have : l.getD i 0 = l[i] := by simp [List.getD, h]
  rw [this]; exact List.getElem_mem h
theorem mem_getDN {l : List Nat} {x : Nat} (h : x ∈ l) : ∃ i, i < l.length ∧ l.getD i 0 = x := by
  obtain ⟨i, hi, rfl⟩ := List.getElem_of_mem h
  exact ⟨i, hi, by simp [List.getD, hi]⟩
theorem give_okT [Held] (hw : WOk G E w) (ht : TabIs E.R k v e e2 p rows) (hn : p.Nodup) (hp : plainT rows) :
    WOk ⟨w, giveMT E k p, 0, (E.giveT k p (inT e e2 rows) w.heap.size).R, (E.giveT k p (inT e e2 rows) w.heap.size).rm, (E.giveT k p (inT e e2 rows) w.heap.size).rv, (E.giveT k p (inT e e2 rows) w.heap.size).X⟩ (E.giveT k p (inT e e2 rows) w.heap.size) w := by
  have hnd : ∀ j, (inT e e2 rows j).kind.nd = true → (E.R (rhoT k p j)).kind.nd = true ∧ lent ≤ j ∧ ((j = lent ∧ rhoT k p j = k) ∨ ∃ i, i < rows.length ∧ j = sid lent i ∧ rhoT k p j = sid k (p.getD i 0)) := fun j hj => by
    rcases inT_nd hj with rfl | ⟨i, hi, rfl⟩
    · exact ⟨by rw [rhoT_top, ht.top]; rfl, Nat.le_refl _, .inl ⟨rfl, rhoT_top k p⟩⟩
    · exact ⟨by rw [rhoT_row, ht.row i (by rw [ht.len]; exact hi)]; rfl, Nat.le_of_lt (sid_gt i).1, .inr ⟨i, hi, rfl, rhoT_row k p i⟩⟩
  have hmx : ∀ j b, giveMT E k p j b → ¬ Held.Gl b := fun j b h => by
    rcases h with ⟨_, h⟩ | ⟨i, hi, _, h⟩
    · exact hw.ngl h (by rw [ht.top]; rfl)
    · exact hw.ngl h (by rw [ht.row i hi]; rfl)
  refine ⟨fun j => ?_, fun j j' b n1 n2 e1 e2 => ?_, fun b => Iff.rfl, fun j h => ?_, rfl, rfl, ⟨fun b h => h.elim, hmx, hw.held⟩, fun k b _ _ h => h, ⟨rfl, rfl, OutLe.refl _, Nat.le_refl _, fun _ _ _ => rfl⟩, fun j => ⟨Nat.le_refl _, fun _ h => ⟨h, rfl, fun h => ⟨h, rfl⟩⟩⟩⟩
  · by_cases hj : (inT e e2 rows j).kind.nd = true
    · rcases inT_nd hj with rfl | ⟨i, hi, rfl⟩
      · have hrow := hw.rows k
        unfold RowOk at hrow ⊢
        rw [ht.top] at hrow
        have eR : (E.giveT k p (inT e e2 rows) w.heap.size).R lent = ⟨1, .tab e (cellsT lent (List.range rows.length))⟩ := inT_top (e2 := e2)
        rw [eR, giveT_top.1, giveT_top.2]
        rcases hrow with ⟨h1, h2, h3⟩ | ⟨b, n, cap, vs, rest, h1, h2, h3, h4, h5, h6, h7, h8, h9⟩
        · refine .inl ⟨h1, h2, List.eq_nil_of_length_eq_zero ?_⟩
          rw [cellsT_length, List.length_range, ← ht.len, ← cellsT_length k p, h3]; rfl
        · refine .inr ⟨b, n, cap, vs, rest, h1, .inr ⟨Nat.le_refl _, .inl ⟨rfl, h1⟩⟩, h3, h4, h5, h6, h7, h8, ?_, fun i a' b' => ?_⟩
          · rw [cellsT_length, List.length_range, ← ht.len, ← cellsT_length k p]; exact h9.1
          · have hi : i < rows.length := by simpa [cellsT_length] using a'
            have hip : i < p.length := by rw [ht.len]; exact hi
            have h0 := h9.2 i (by rw [cellsT_length]; exact hip) b'
            have q1 : (cellsT k p)[i]'(by rw [cellsT_length]; exact hip) = .own (sid k (p.getD i 0)) 1 := by simp [cellsT, List.getD, hip]
            have q2 : (cellsT lent (List.range rows.length))[i] = .own (sid lent i) 1 := by simp [cellsT]
            rw [q1] at h0
            rw [q2]
            cases h0 with
            | own hv hx =>
              have hr := ht.row i hip
              refine .own ?_ fun _ _ => ?_
              · have h1 : 1 ≤ (inT e e2 rows (sid lent i)).ver := by rw [inT_row hi]; exact Nat.le_refl _
                exact h1
              · rw [(giveT_row i).2]
                exact hx (by rw [hr]) (by rw [hr]; rfl)
      · have hip : i < p.length := by rw [ht.len]; exact hi
        have hrow := hw.rows (sid k (p.getD i 0))
        unfold RowOk at hrow ⊢
        rw [ht.row i hip] at hrow
        have eR : (E.giveT k p (inT e e2 rows) w.heap.size).R (sid lent i) = ⟨1, .sli e2 1 false (rows.getD i [])⟩ := by rw [giveT_R]; exact inT_row hi
        rw [eR, (giveT_row i).1, (giveT_row i).2]
        rcases hrow with h | ⟨b, n, cap, vs, rest, h1, h2, h3, h4, h5, h6, h7, h8, h9⟩
        · exact .inl h
        · have hM : giveMT E k p (sid lent i) b := .inr ⟨i, hip, rfl, h1⟩
          have hle : lent ≤ sid lent i := Nat.le_of_lt (sid_gt i).1
          have h9' := plain_rep (w' := w) (E' := (E.giveT k p (inT e e2 rows) w.heap.size).bare) (lo' := (E.giveT k p (inT e e2 rows) w.heap.size).B) (hp i hi) h9
          refine Or.inr ⟨b, n, cap, vs, rest, h1, ?_, h3, h4, h5, h6, h7, h8, h9'⟩
          exact Or.inr ⟨hle, hM⟩
    · unfold RowOk
      have : (E.giveT k p (inT e e2 rows) w.heap.size).R j = inT e e2 rows j := rfl
      rw [this]
      cases hk : (inT e e2 rows j).kind with
      | dead => trivial
      | _ => rw [hk] at hj; exact absurd rfl hj
  · obtain ⟨a1, a2, a3⟩ := hnd j n1
    obtain ⟨b1, b2, b3⟩ := hnd j' n2
    have e1' : E.rm (rhoT k p j) = some b := by simpa [Env.giveT, a2] using e1
    have e2' : E.rm (rhoT k p j') = some b := by simpa [Env.giveT, b2] using e2
    have heq := hw.inj _ _ b a1 b1 e1' e2'
    rcases a3 with ⟨rfl, c1⟩ | ⟨i, hi, rfl, c1⟩
    · rcases b3 with ⟨rfl, d1⟩ | ⟨i', hi', rfl, d1⟩
      · rfl
      · rw [c1, d1] at heq; exact absurd heq.symm (sid_ne k _)
    · rcases b3 with ⟨rfl, d1⟩ | ⟨i', hi', rfl, d1⟩
      · rw [c1, d1] at heq; exact absurd heq (sid_ne k _)
      · rw [c1, d1] at heq
        have h3 := sid_inj' heq
        have hip : i < p.length := by rw [ht.len]; exact hi
        have hip' : i' < p.length := by rw [ht.len]; exact hi'
        have e1 : p.getD i 0 = p[i] := by simp [List.getD, hip]
        have e2 : p.getD i' 0 = p[i'] := by simp [List.getD, hip']
        rw [e1, e2] at h3
        rw [(List.getElem_inj (h₀ := hip) (h₁ := hip') hn).1 h3]
  · show 0 < (inT e e2 rows j).ver
    rcases inT_nd h with rfl | ⟨i, hi, rfl⟩
    · rw [inT_top]; exact Nat.one_pos
    · rw [inT_row hi]; exact Nat.one_pos
theorem give_repT [Held] (ht : TabIs E.R k v e e2 p rows) (B : Nat) {raw args : List PV} (hg : GiveL [(k, v)] raw args) : ∀ {vals : List Value}, RepL w E 0 raw vals → RepL w (E.giveT k p (inT e e2 rows) B) 0 args vals := by
  induction hg with
  | nil => intro vals h; exact ⟨h.1, fun i a => absurd a (by simp)⟩
  | @v x l l' _ ih =>
    intro vals h
    cases vals with
    | nil => simp [RepL] at h
    | cons y ys =>
      have h0 := h.2 0 (by simp) (by simp)
      simp only [List.getElem_cons_zero] at h0
      have := h0.v_eq; subst this
      have ht := ih (vals := ys) ⟨by simpa using h.1, fun i a b => h.2 (i + 1) (by simpa using a) (by simpa using b)⟩
      refine ⟨by simp [ht.1], fun i a b => ?_⟩
      cases i with
      | zero => exact .v _
      | succ i => exact ht.2 i (by simpa using a) (by simpa using b)
  | @clo f l l' _ ih =>
    intro vals h
    cases vals with
    | nil => simp [RepL] at h
    | cons y ys =>
      have h0 := h.2 0 (by simp) (by simp)
      simp only [List.getElem_cons_zero] at h0
      have ht := ih (vals := ys) ⟨by simpa using h.1, fun i a b => h.2 (i + 1) (by simpa using a) (by simpa using b)⟩
      refine ⟨by simp [ht.1], fun i a b => ?_⟩
      cases i with
      | zero => cases h0 with | clo hl _ => exact .clo hl (fun i h => absurd h (by simp))
      | succ i => exact ht.2 i (by simpa using a) (by simpa using b)
  | @own k' ver l l' i hj _ ih =>
    intro vals h
    cases vals with
    | nil => simp [RepL] at h
    | cons y ys =>
      have h0 := h.2 0 (by simp) (by simp)
      simp only [List.getElem_cons_zero] at h0
      have hr := ih (vals := ys) ⟨by simpa using h.1, fun i a b => h.2 (i + 1) (by simpa using a) (by simpa using b)⟩
      refine ⟨by simp [hr.1], fun i' a b => ?_⟩
      cases i' with
      | zero =>
        have hi : i = 0 := by
          have := (List.getElem?_eq_some_iff.1 hj).1
          simp at this; exact this
        subst hi
        simp only [List.getElem?_cons_zero, Option.some.injEq, Prod.mk.injEq] at hj
        obtain ⟨rfl, rfl⟩ := hj
        cases h0 with
        | own hv hx =>
          refine .own ?_ fun _ _ => ?_
          · show 1 ≤ (inT e e2 rows lent).ver
            rw [inT_top]; exact Nat.le_refl _
          · show y = _
            rw [Nat.add_zero, giveT_top.2]
            exact hx (by rw [ht.top]) (by rw [ht.top]; rfl)
      | succ i' => exact hr.2 i' (by simpa using a) (by simpa using b)
  | @ag c c' l l' _ _ ih1 ih2 =>
    intro vals h
    cases vals with
    | nil => simp [RepL] at h
    | cons y ys =>
      have h0 := h.2 0 (by simp) (by simp)
      simp only [List.getElem_cons_zero] at h0
      have hr := ih2 (vals := ys) ⟨by simpa using h.1, fun i a b => h.2 (i + 1) (by simpa using a) (by simpa using b)⟩
      refine ⟨by simp [hr.1], fun i a b => ?_⟩
      cases i with
      | zero =>
        cases h0 with
        | @ag _ _ _ vs hl hh =>
          have h1 := ih1 (vals := vs) ⟨hl, hh⟩
          exact .ag h1.1 h1.2
      | succ i => exact hr.2 i (by simpa using a) (by simpa using b)
end
end Go.Abs
