/- DERIVED by an AI agent. A struct written out. No program in sight. -/
import Derived.Test.YtfjjopfeipggiaaA19
namespace Go.Abs
set_option linter.unusedSimpArgs false
set_option linter.unusedVariables false

/-- The parts of a struct, laid into its cells. -/
def fillK (T : Tab) (rw : Nat → Row) (fs : List (Nat × TypeId)) : List (Nat × PV) → List PV → (List PV → Prop) → Prop
  | [], cells, K => K cells
  | (i, p) :: rest, cells, K => match fs[i]? with
    | some (off, ft) => cellsK rw p fun c => c.length = (T ft).size ∧ off + c.length ≤ cells.length ∧ fillK T rw fs rest (spl cells off c) K
    | none => False

def buildVK (T : Tab) (rw : Nat → Row) (ev : Operand → PV) (t : TypeId) (parts : Array (Nat × Operand)) (K : PV → Prop) : Prop :=
  0 < (T t).size ∧ match (T t).k with
  | .struct fs => (∀ x ∈ fs, 0 < (T x.2).size) ∧ fillK T rw fs (parts.toList.map fun x => (x.1, ev x.2)) ((T t).zero.map PV.v) fun c => K (.ag c)
  | _ => False

section
variable {P : Program} {T : Tab} {G : Ghost} {s : St} {E : Env} {a : Act} {w w' : World} {o : Oper}

theorem fillK_sound {rw : Nat → Row} (hR : E.R = rw) (hw : WOk G E w) {fs : List (Nat × TypeId)} {places : Array (Nat × Nat)} (hpl : ∀ i : Nat, places[i]? = (fs[i]?).map fun x : Nat × TypeId => (x.1, (T x.2).size)) :
    ∀ (pp : List (Nat × PV)) (pv : List (Nat × Value)) (c : List PV) (cs : Array Value) {K : List PV → Prop}, fillK T rw fs pp c K → pp.map (·.1) = pv.map (·.1) → RepL w E 0 (pp.map (·.2)) (pv.map (·.2)) → RepL w E 0 c cs.toList →
      ∃ c' out, K c' ∧ Instr.fill (places[·]?) cs pv = some out ∧ RepL w E 0 c' out.toList := by
  intro pp
  induction pp with
  | nil =>
    intro pv c cs K hk h1 h2 h3
    have : pv = [] := by cases pv <;> simp at h1 ⊢
    subst this
    exact ⟨c, cs, hk, rfl, h3⟩
  | cons x pp ih =>
    intro pv c cs K hk h1 h2 h3
    cases pv with
    | nil => simp at h1
    | cons y pv =>
      obtain ⟨i, p⟩ := x
      obtain ⟨j, v⟩ := y
      simp only [List.map_cons, List.cons.injEq] at h1
      obtain ⟨rfl, h1⟩ := h1
      have hp : Rep w E 0 p v := h2.2 0 (by simp) (by simp)
      have h2' : RepL w E 0 (pp.map (·.2)) (pv.map (·.2)) := ⟨by simpa using h2.1, fun k a b => by
        have := h2.2 (k + 1) (by simp at a ⊢; omega) (by simp at b ⊢; omega)
        simpa using this⟩
      unfold fillK at hk
      split at hk
      · rename_i off ft hfi
        obtain ⟨c1, ⟨hl, hfit, hk⟩, hrep, _⟩ := cellsK_sound hk hR hw hp
        have hvs : v.cells.size = (T ft).size := by rw [← hl, hrep.1]; simp
        have hcs : c.length = cs.size := by rw [h3.1]; simp
        have hset := foldl_set v.cells.toList 0 off cs (by simp [hvs]; omega)
        have hfold : (v.cells.zipIdx.foldl (fun cs (x : Value × Nat) => cs.setIfInBounds (off + x.2) x.1) cs) = (v.cells.toList.zipIdx.foldl (fun cs (x : Value × Nat) => cs.setIfInBounds (off + x.2) x.1) cs) := by
          rw [← Array.foldl_toList, Array.toList_zipIdx]
        obtain ⟨c', out, hK, hfill, hout⟩ := ih pv (spl c off c1) (v.cells.toList.zipIdx.foldl (fun cs (x : Value × Nat) => cs.setIfInBounds (off + x.2) x.1) cs) hk h1 h2' (by
          rw [hset]
          have := spl_rep h3 hrep hfit
          simpa using this)
        refine ⟨c', out, hK, ?_, hout⟩
        simp only [Instr.fill]
        rw [hpl, hfi]
        simp only [Option.map_some]
        rw [if_neg (by simp [hvs]; omega)]
        rw [hfold]
        exact hfill
      · exact hk.elim

theorem places_of (hT : T.Ok P) : ∀ (flds : List Field), (∀ x ∈ flds.map (fun f => (f.offset, f.type)), 0 < (T x.2).size) → flds.mapM (fun f => (P.info? f.type).map fun i => (f.offset, i.size)) = some (flds.map fun f => (f.offset, (T f.type).size)) := by
  intro flds
  induction flds with
  | nil => intro _; rfl
  | cons f flds ih =>
    intro h
    obtain ⟨i, z, hi, hs, _⟩ := (hT f.type (h (f.offset, f.type) (by simp))).info
    have := ih fun x hx => h x (by simp at hx ⊢; exact .inr hx)
    simp [List.mapM_cons, this, hi, hs]

theorem buildV_sound (hT : T.Ok P) {t : TypeId} {parts : Array (Nat × Operand)} {K : PV → Prop} (ho : o.op = .build t parts) (hk : buildVK T s.rw s.ev t parts K) : ∃ p, K p ∧ Yields P G s o p := by
  obtain ⟨ht, hk⟩ := hk
  split at hk
  · rename_i fs hfs
    obtain ⟨hsz, hk⟩ := hk
    have hu := (hT t ht).k
    rw [hfs] at hu
    obtain ⟨flds, hu, hfl⟩ := hu
    obtain ⟨i, z, hi, hs, hb, hz, hzc⟩ := (hT t ht).info
    have hdet : ∃ c', K (.ag c') ∧ fillK T s.rw fs (parts.toList.map fun x => (x.1, s.ev x.2)) ((T t).zero.map PV.v) (· = c') := by
      have : ∀ (pp : List (Nat × PV)) (c : List PV) (K : List PV → Prop), fillK T s.rw fs pp c K → ∃ c', K c' ∧ fillK T s.rw fs pp c (· = c') := by
        intro pp
        induction pp with
        | nil => intro c K h; exact ⟨c, h, rfl⟩
        | cons x pp ih =>
          intro c K h
          obtain ⟨i, p⟩ := x
          unfold fillK at h ⊢
          split at h
          · rename_i off ft hfi
            unfold cellsK at h ⊢
            split at h <;> first
              | exact h.elim
              | (obtain ⟨a1, a2, h⟩ := h; obtain ⟨c', h1, h2⟩ := ih _ _ h; exact ⟨c', h1, a1, a2, h2⟩)
              | (obtain ⟨q, a1, a2, h⟩ := h; obtain ⟨c', h1, h2⟩ := ih _ _ h; exact ⟨c', h1, q, a1, a2, h2⟩)
              | (obtain ⟨q, q2, a1, a2, h⟩ := h; obtain ⟨c', h1, h2⟩ := ih _ _ h; exact ⟨c', h1, q, q2, a1, a2, h2⟩)
          · exact h.elim
      exact this _ _ _ hk
    obtain ⟨c', hK, hfill⟩ := hdet
    refine ⟨_, hK, fun E a w hR hw hx K' Q hK' => ?_⟩
    have hops : ∀ x ∈ parts.toList, Rep w E 0 (s.ev x.2) (a.eval x.2) := fun x hx' => hx x.2 (by
      simp only [ho, Op.operands, List.mem_toArray, List.mem_map]; exact ⟨x, hx', rfl⟩)
    have hplaces : (flds.toList.map fun f => (f.offset, (T f.type).size)).toArray.toList = fs.map fun x => (x.1, (T x.2).size) := by
      rw [← hfl]; simp
    obtain ⟨c'', out, rfl, hf, hout⟩ := fillK_sound (T := T) hR hw (fs := fs) (places := (flds.toList.map fun f => (f.offset, (T f.type).size)).toArray) (fun j => by
        rw [← Array.getElem?_toList, hplaces, List.getElem?_map]) (parts.toList.map fun x => (x.1, s.ev x.2)) (parts.toList.map fun x => (x.1, a.eval x.2)) ((T t).zero.map PV.v) z.cells hfill (by simp) (by
        have e1 : (parts.toList.map fun x => (x.1, s.ev x.2)).map (·.2) = parts.toList.map fun x => s.ev x.2 := by simp
        have e2 : (parts.toList.map fun x => (x.1, a.eval x.2)).map (·.2) = parts.toList.map fun x => a.eval x.2 := by simp
        rw [e1, e2]
        exact RepL.map fun x hx' => hops x hx') (by
        rw [hzc]
        exact ⟨by simp, fun j p q => by simp; exact .v _⟩)
    have hbuilt : P.built t (parts.map fun x => (x.1, a.eval x.2)).toList = some out := by
      unfold Program.built
      rw [hi, hu]
      simp only [hz]
      rw [places_of hT flds.toList (by rw [hfl]; exact hsz)]
      have e : (parts.map fun x => (x.1, a.eval x.2)).toList = parts.toList.map fun x => (x.1, a.eval x.2) := by simp
      rw [e]
      exact hf
    have hrun : (execOp a.eval o).run P w = .ok (.value (.agg out)) w := by
      have := run_build w t (parts.map fun x => (x.1, a.eval x.2)) out hbuilt
      simp [execOp, ho, this]
    refine wp_of_value hrun (hK' _ _ (Ext.refl w) ?_)
    have e : out = out.toList.toArray := by simp
    rw [e]
    exact .ag hout.1 fun i p q => hout.2 i p q
  · exact hk.elim
end
end Go.Abs
