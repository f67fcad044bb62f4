/- DERIVED by an AI agent. The operations that make memory: new rows. No program in sight. -/
import Derived.Test.YtfjjopfeipggiaaA10
namespace Go.Abs
set_option linter.unusedSimpArgs false

/-- What an operation makes of the state, wherever the state fits. -/
def Effects (P : Program) (G : Ghost) (s : St) (o : Oper) (s' : St) : Prop :=
  ∀ (a : Act) (w : World), Sim G s a w → ∀ (K : Act → World → Prop) (Q : Exit → Act → World → Prop), (∀ a' w', Sim G s' a' w' → K a' w') → o.wp P a w K Q

theorem St.row_eq (s : St) (k : Nat) (r : Row) : s.row k r = { s with rw := updF s.rw k r } := rfl

section
variable {P : Program} {T : Tab} {G : Ghost} {s : St} {E : Env} {a : Act} {w w' : World} {o : Oper}

theorem eff_value {E' : Env} {D : Nat → Prop} {v : Value} {p : PV} (hs : SimE G E s a w) (hrun : (execOp a.eval o).run P w = .ok (.value v) w') (ht : Turn G E E' w w' D)
    (hrows : ∀ k, D k → RowOk w' E' G.C k) (hp : Rep w' E' 0 p v) (hd : ∀ x, o.dst = some x → x < G.n) {K : Act → World → Prop} {Q : Exit → Act → World → Prop}
    (hK : ∀ a' w', Sim G (St.put { s with rw := E'.R } o.dst p) a' w' → K a' w') : o.wp P a w K Q :=
  wp_of_value hrun (hK _ _ ⟨E', (ht.sim hs hrows).put hd hp⟩)

/-- A value as cells of a variable. -/
def cellsK (rw : Nat → Row) (p : PV) (K : List PV → Prop) : Prop :=
  match p with
  | .ag c => K c
  | .v x => x.oneCell' = true ∧ K [p]
  | .sl _ _ _ => K [p]
  | .eref _ _ _ => K [p]
  | .clo _ _ => K [p]
  | .own k ver => (rw k).ver = ver ∧ (rw k).kind.slice = true ∧ K [p]
  | .ref k ver _ => (rw k).ver = ver ∧ (rw k).kind.nd = true ∧ K [p]
  | _ => False

theorem slice_row (hw : WOk G E w) {k : Nat} (hk : (E.R k).kind.slice = true) : ∃ ad n c, E.rv k = .slice ad n c := by
  have hr := hw.rows k
  unfold RowOk at hr
  cases hkd : (E.R k).kind with
  | dead => rw [hkd] at hk; cases hk
  | box t c => rw [hkd] at hk; cases hk
  | nil => simp only [hkd] at hr; exact ⟨_, _, _, hr.2⟩
  | sli e sz fz c =>
    simp only [hkd] at hr
    rcases hr with ⟨_, h, _⟩ | ⟨b, n, cap, vs, rest, h1, h2, h3, _⟩
    · exact ⟨_, _, _, h⟩
    · exact ⟨_, _, _, h3⟩

theorem cells_of_one {x : Value} (h : x.oneCell' = true) : x.cells = #[x] := by
  cases x <;> simp [Value.oneCell', Value.cells] at h ⊢

theorem cellsK_sound {rw : Nat → Row} {p : PV} {x : Value} {K : List PV → Prop} (hk : cellsK rw p K) (hR : E.R = rw) (hw : WOk G E w) (hp : Rep w E 0 p x) :
    ∃ c, K c ∧ RepL w E 0 c x.cells.toList ∧ (∀ y ∈ x.cells.toList, p = .ag c ∨ y.oneCell' = true) := by
  subst hR
  have one : ∀ (h1 : x.oneCell' = true), RepL w E 0 [p] x.cells.toList := fun h1 => by
    rw [cells_of_one h1]
    exact ⟨rfl, fun i a b => by simp at a; subst a; simpa using hp⟩
  have one' : ∀ (h1 : x.oneCell' = true) (c : List PV), (∀ y ∈ x.cells.toList, p = .ag c ∨ y.oneCell' = true) := fun h1 c y hy => by
    rw [cells_of_one h1] at hy
    simp at hy; subst hy; exact .inr h1
  cases hp with
  | v => exact ⟨_, hk.2, one hk.1, one' hk.1 _⟩
  | sl => exact ⟨_, hk, one rfl, one' rfl _⟩
  | @own _ _ k ver _ hv hx =>
    obtain ⟨h1, h2, hk⟩ := hk
    obtain ⟨ad, n, c, he⟩ := slice_row hw h2
    have hxe := hx h1 h2
    rw [he] at hxe
    exact ⟨_, hk, one (by rw [hxe]; rfl), one' (by rw [hxe]; rfl) _⟩
  | @ref _ _ k ver off _ hv hx =>
    obtain ⟨h1, h2, hk⟩ := hk
    obtain ⟨b, _, hxe⟩ := hx h1 h2
    exact ⟨_, hk, one (by rw [hxe]; rfl), one' (by rw [hxe]; rfl) _⟩
  | eref => exact ⟨_, hk, one rfl, one' rfl _⟩
  | @ag _ _ c vs hl hh => exact ⟨_, hk, ⟨hl, hh⟩, fun y hy => .inl rfl⟩
  | tup => exact hk.elim
  | clo => exact ⟨_, hk, one rfl, one' rfl _⟩
  | junk => exact hk.elim

def newSt (s : St) (d : Nat) (kd : RK) (p : Nat → PV) : St := (s.row d ⟨(s.rw d).ver + 1, kd⟩).put (some d) (p ((s.rw d).ver + 1))

/-- A variable of the call's own. -/
theorem eff_box {d : Nat} {t : TypeId} {c : List PV} {vs : List Value} (hs : SimE G E s a w) (hdst : o.dst = some d) (hd : d < G.n) (hc : RepL w E 0 c vs)
    (hrun : (execOp a.eval o).run P w = .ok (.value (.pointer (some ⟨w.heap.size, 0, none⟩))) (w.alloc (.cells vs.toArray t)))
    {K : Act → World → Prop} {Q : Exit → Act → World → Prop} (hK : ∀ a' w', Sim G (newSt s d (.box t c) (fun v => .ref d v 0)) a' w' → K a' w') : o.wp P a w K Q := by
  have hx : Ext w (w.alloc (.cells vs.toArray t)) := Ext.alloc _ _
  have ht := turn_new (G := G) (E := E) (k := d) (kd := .box t c) (m := some w.heap.size) (v := default) hx (by simp)
  refine eff_value (E' := E.row d _ _ _) (p := .ref d ((s.rw d).ver + 1) 0) hs hrun ht (fun k hk => ?_) ?_ (by simp [hdst, hd]) (fun a' w' h => hK a' w' ?_)
  · subst hk
    unfold RowOk
    simp only [Env.row, updF_same]
    exact ⟨w.heap.size, vs, rfl, .inl hs.wok.kept.size, heap_alloc_new w _, hc.mono (ht.lasts hs.wok) (Nat.le_refl _)⟩
  · refine .ref (by simp [Env.row, updF_same, hs.rw]) fun _ _ => ⟨w.heap.size, by simp [Env.row, updF_same], rfl⟩
  · have e : (E.row d ⟨(E.R d).ver + 1, .box t c⟩ (some w.heap.size) default).R = (s.row d ⟨(s.rw d).ver + 1, .box t c⟩).rw := by
      simp only [Env.row, hs.rw]; rfl
    rw [e, hdst] at h
    exact h

/-- A row of the call's own. -/
theorem eff_row {d n cap : Nat} {e : TypeId} {sz : Nat} {c : List PV} {vs rest : List Value} (hs : SimE G E s a w) (hdst : o.dst = some d) (hd : d < G.n)
    (hc : RepL w E.bare E.B c vs) (h1 : vs.length = n * sz) (h2 : n ≤ cap) (h3 : cap ≤ maxLen) (h4 : (vs ++ rest).length = cap * sz)
    (hx : Ext w w') (hnew : w'.heap[w.heap.size]? = some (.cells (vs ++ rest).toArray e (0, 0)))
    (hrun : (execOp a.eval o).run P w = .ok (.value (.slice (some ⟨w.heap.size, 0, none⟩) n cap)) w')
    {K : Act → World → Prop} {Q : Exit → Act → World → Prop} (hK : ∀ a' w', Sim G (newSt s d (.sli e sz false c) (fun v => .own d v)) a' w' → K a' w') : o.wp P a w K Q := by
  have ht := turn_new (G := G) (E := E) (k := d) (kd := .sli e sz false c) (m := some w.heap.size) (v := .slice (some ⟨w.heap.size, 0, none⟩) n cap) hx (by simp)
  refine eff_value (E' := E.row d _ _ _) (p := .own d ((s.rw d).ver + 1)) hs hrun ht (fun k hk => ?_) ?_ (by simp [hdst, hd]) (fun a' w' h => hK a' w' ?_)
  · subst hk
    unfold RowOk
    simp only [Env.row, updF_same]
    refine .inr ⟨w.heap.size, n, cap, vs, rest, rfl, .inl hs.wok.kept.size, rfl, hnew, h1, h2, h3, h4, ?_⟩
    exact hc.mono (ht.lasts hs.wok).bare (Nat.le_refl _)
  · refine .own (by simp [Env.row, updF_same, hs.rw]) fun _ _ => by simp [Env.row, updF_same]
  · have e' : (E.row d ⟨(E.R d).ver + 1, .sli e sz false c⟩ (some w.heap.size) (.slice (some ⟨w.heap.size, 0, none⟩) n cap)).R = (s.row d ⟨(s.rw d).ver + 1, .sli e sz false c⟩).rw := by
      simp only [Env.row, hs.rw]; rfl
    rw [e', hdst] at h
    exact h

/-- A nil slice that will be appended to. -/
theorem eff_nil {d : Nat} {kd : RK} (hkd : kd = .nil ∨ ∃ e sz, kd = .sli e sz false []) (hs : SimE G E s a w) (hdst : o.dst = some d) (hd : d < G.n) (hx : Ext w w')
    (hrun : (execOp a.eval o).run P w = .ok (.value (.slice none 0 0)) w')
    {K : Act → World → Prop} {Q : Exit → Act → World → Prop} (hK : ∀ a' w', Sim G (newSt s d kd (fun v => .own d v)) a' w' → K a' w') : o.wp P a w K Q := by
  have ht := turn_new (G := G) (E := E) (k := d) (kd := kd) (m := none) (v := .slice none 0 0) hx (by simp)
  refine eff_value (E' := E.row d _ _ _) (p := .own d ((s.rw d).ver + 1)) hs hrun ht (fun k hk => ?_) ?_ (by simp [hdst, hd]) (fun a' w' h => hK a' w' ?_)
  · subst hk
    unfold RowOk
    simp only [Env.row, updF_same]
    rcases hkd with rfl | ⟨e, sz, rfl⟩
    · simp
    · simp
  · refine .own (by simp [Env.row, updF_same, hs.rw]) fun _ _ => by simp [Env.row, updF_same]
  · have e' : (E.row d ⟨(E.R d).ver + 1, kd⟩ none (.slice none 0 0)).R = (s.row d ⟨(s.rw d).ver + 1, kd⟩).rw := by
      simp only [Env.row, hs.rw]; rfl
    rw [e', hdst] at h
    exact h

end
end Go.Abs
