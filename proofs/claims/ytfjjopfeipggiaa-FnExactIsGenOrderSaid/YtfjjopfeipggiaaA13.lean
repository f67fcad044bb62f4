/- DERIVED by an AI agent. One row turns, others are written no more: the step behind store, append, a slice literal. No program in sight. -/
import Derived.Test.YtfjjopfeipggiaaA12
namespace Go.Abs
set_option linter.unusedSimpArgs false

def frz (r : Row) : Row := match r.kind with | .sli e sz _ c => ⟨r.ver, .sli e sz true c⟩ | _ => r
def frzF (R : Nat → Row) (ks : List Nat) : Nat → Row := fun k => if k ∈ ks then frz (R k) else R k
def St.freeze (s : St) (ks : List Nat) : St := { s with rw := frzF s.rw ks }

theorem frz_ver (r : Row) : (frz r).ver = r.ver := by unfold frz; split <;> rfl
theorem frz_nd (r : Row) : (frz r).kind.nd = r.kind.nd := by unfold frz; split <;> simp_all [RK.nd]
theorem frz_slice (r : Row) : (frz r).kind.slice = r.kind.slice := by unfold frz; split <;> simp_all [RK.slice]
theorem frz_live (r : Row) (h : (frz r).kind.live = true) : r.kind.live = true := by
  unfold frz at h; split at h <;> simp_all [RK.live]
theorem frzF_ver (R : Nat → Row) (ks : List Nat) (k : Nat) : (frzF R ks k).ver = (R k).ver := by unfold frzF; split <;> simp [frz_ver]
theorem frzF_nil (R : Nat → Row) : frzF R [] = R := by funext k; simp [frzF]
theorem St.freeze_nil (s : St) : s.freeze [] = s := by simp [St.freeze, frzF_nil]

/-- Rows written no more, and one row anew. -/
def Env.turn (E : Env) (fz : List Nat) (k : Nat) (r : Row) (m : Option Nat) (v : Value) : Env :=
  { R := updF (frzF E.R fz) k r, rm := updF E.rm k m, rv := updF E.rv k v, L := mkL (updF (frzF E.R fz) k r) (updF E.rm k m), B := E.B }

structure OneTurn (E : Env) (w w' : World) (k : Nat) (r : Row) (m : Option Nat) (v : Value) : Prop where
  blocks : ∀ b, b < w.heap.size → (E.rm k = some b → (E.R k).kind.live = false) → w'.heap[b]? = w.heap[b]?
  fresh : ∀ b, m = some b → r.kind.nd = true → w.heap.size ≤ b ∨ (E.rm k = some b ∧ (E.R k).kind.nd = true ∧ (r.kind.live = true → (E.R k).kind.live = true))
  ver : (E.R k).ver ≤ r.ver
  same1 : r.ver = (E.R k).ver → r.kind.slice = true → (E.R k).kind.slice = true ∧ v = E.rv k
  same2 : r.ver = (E.R k).ver → r.kind.nd = true → (E.R k).kind.nd = true ∧ m = E.rm k
  pos : r.kind.nd = true → 0 < r.ver
  size : w.heap.size ≤ w'.heap.size
  os : w'.os = w.os
  tape : w'.tape = w.tape
  output : w'.output = w.output

section
variable {G : Ghost} {E : Env} {w w' : World} {k : Nat} {r : Row} {m : Option Nat} {v : Value} {fz : List Nat}

theorem turn_R (j : Nat) (h : j ≠ k) : (E.turn fz k r m v).R j = if j ∈ fz then frz (E.R j) else E.R j := by simp [Env.turn, updF_other _ _ h, frzF]

theorem OneTurn.turn (hw : WOk G E w) (h : OneTurn E w w' k r m v) : Turn G E (E.turn fz k r m v) w w' (fun j => j = k ∨ j ∈ fz) where
  L := rfl
  B := rfl
  keep j hj := by
    have h1 : j ≠ k := fun e => hj (.inl e)
    have h2 : j ∉ fz := fun e => hj (.inr e)
    refine ⟨by rw [turn_R j h1, if_neg h2], by simp [Env.turn, updF_other _ _ h1], by simp [Env.turn, updF_other _ _ h1]⟩
  blocks b hb hD := h.blocks b hb fun hk => hD k (.inl rfl) hk
  fresh j b hD hb hn := by
    by_cases hj : j = k
    · subst hj
      simp only [Env.turn, updF_same] at hb hn ⊢
      exact h.fresh b hb hn
    · rw [turn_R j hj] at hn ⊢
      simp only [Env.turn, updF_other _ _ hj] at hb
      have hf : j ∈ fz := hD.resolve_left hj
      rw [if_pos hf, frz_nd] at hn
      rw [if_pos hf]
      exact .inr ⟨hb, hn, frz_live _⟩
  ver j hD := by
    by_cases hj : j = k
    · subst hj; simp only [Env.turn, updF_same]; exact h.ver
    · rw [turn_R j hj]; split <;> simp [frz_ver]
  same1 j hD he hs := by
    by_cases hj : j = k
    · subst hj
      simp only [Env.turn, updF_same] at he hs ⊢
      exact h.same1 he hs
    · rw [turn_R j hj] at hs
      simp only [Env.turn, updF_other _ _ hj]
      split at hs
      · rw [frz_slice] at hs; exact ⟨hs, trivial⟩
      · exact ⟨hs, trivial⟩
  same2 j hD he hs := by
    by_cases hj : j = k
    · subst hj
      simp only [Env.turn, updF_same] at he hs ⊢
      exact h.same2 he hs
    · rw [turn_R j hj] at hs
      simp only [Env.turn, updF_other _ _ hj]
      split at hs
      · rw [frz_nd] at hs; exact ⟨hs, trivial⟩
      · exact ⟨hs, trivial⟩
  pos j hD hn := by
    by_cases hj : j = k
    · subst hj; simp only [Env.turn, updF_same] at hn ⊢; exact h.pos hn
    · rw [turn_R j hj] at hn ⊢
      split at hn
      · rename_i hf; rw [frz_nd] at hn; rw [if_pos hf, frz_ver]; exact hw.pos j hn
      · rename_i hf; rw [if_neg hf]; exact hw.pos j hn
  inj j j' b hD hD' hn hn' hb hb' := by
    by_cases hj : j = k
    · by_cases hj' : j' = k
      · rw [hj, hj']
      · subst hj
        rw [turn_R j' hj'] at hn'
        simp only [Env.turn, updF_same] at hb hn
        simp only [Env.turn, updF_other _ _ hj'] at hb'
        rw [if_pos (hD'.resolve_left hj'), frz_nd] at hn'
        rcases h.fresh b hb hn with hf | ⟨h1, h2, _⟩
        · have := (hw.block hb' hn').1; omega
        · exact hw.inj _ _ b h2 hn' h1 hb'
    · rw [turn_R j hj, if_pos (hD.resolve_left hj), frz_nd] at hn
      simp only [Env.turn, updF_other _ _ hj] at hb
      by_cases hj' : j' = k
      · subst hj'
        simp only [Env.turn, updF_same] at hb' hn'
        rcases h.fresh b hb' hn' with hf | ⟨h1, h2, _⟩
        · have := (hw.block hb hn).1; omega
        · exact hw.inj _ _ b hn h2 hb h1
      · rw [turn_R j' hj', if_pos (hD'.resolve_left hj'), frz_nd] at hn'
        simp only [Env.turn, updF_other _ _ hj'] at hb'
        exact hw.inj _ _ b hn hn' hb hb'
  size := h.size
  os := h.os
  tape := h.tape
  output := h.output

/-- The rows that are written no more stand; the one that turned is given. -/
theorem OneTurn.rows (hw : WOk G E w) (h : OneTurn E w w' k r m v) (hlent : ∀ j ∈ fz, j ≠ k) (hrow : Lasts w w' E (E.turn fz k r m v) → RowOk w' (E.turn fz k r m v) G.C k) :
    ∀ j, (j = k ∨ j ∈ fz) → RowOk w' (E.turn fz k r m v) G.C j := by
  have hl := (h.turn (fz := fz) hw).lasts hw
  intro j hD
  by_cases hj : j = k
  · subst hj; exact hrow hl
  · have hf : j ∈ fz := hD.resolve_left hj
    have hr := hw.rows j
    have hblk : ∀ b, E.rm j = some b → (E.R j).kind.nd = true → w'.heap[b]? = w.heap[b]? := fun b hb hn => by
      refine h.blocks b (hw.block hb hn).1 fun hkb => ?_
      cases hlv : (E.R k).kind.live with
      | false => rfl
      | true => exact absurd (hw.inj j k b hn (RK.nd_of_live hlv) hb hkb) hj
    unfold RowOk at hr ⊢
    rw [turn_R j hj, if_pos hf]
    have e1 : (E.turn fz k r m v).rm j = E.rm j := by simp [Env.turn, updF_other _ _ hj]
    have e2 : (E.turn fz k r m v).rv j = E.rv j := by simp [Env.turn, updF_other _ _ hj]
    rw [e1, e2]
    cases hk : (E.R j).kind with
    | dead => simp [frz, hk]
    | nil => simp only [hk, frz] at hr ⊢; exact hr
    | box t cells =>
      simp only [hk, frz] at hr ⊢
      obtain ⟨b, vs, h1, h2, h3, h4⟩ := hr
      exact ⟨b, vs, h1, h2, (hblk b h1 (by rw [hk]; rfl)).trans h3, h4.mono hl (Nat.le_refl _)⟩
    | sli e sz fz' cells =>
      simp only [hk, frz] at hr ⊢
      rcases hr with hr | ⟨b, n, cap, vs, rest, h1, h2, h3, h4, h5, h6, h7, h8, h9⟩
      · exact .inl hr
      · exact .inr ⟨b, n, cap, vs, rest, h1, h2, h3, (hblk b h1 (by rw [hk]; rfl)).trans h4, h5, h6, h7, h8, h9.mono hl.bare (Nat.le_refl _)⟩

end

def isV : PV → Bool | .v x => x.oneCell' | _ => false

/-- A value as cells of a slice of the call's own; the rows that are written no more. -/
def pureK (rw : Nat → Row) (p : PV) (K : List PV → List Nat → Prop) : Prop :=
  match p with
  | .v x => x.oneCell' = true ∧ K [.v x] []
  | .sl fr sz c => fr = true ∧ K [.sl false sz c] []
  | .own k ver => (rw k).ver = ver ∧ k < lent ∧ (match (rw k).kind with | .nil => K [.sl false 1 []] [] | .sli _ sz _ c => K [.sl false sz c] [k] | _ => False)
  | .ag c => (∀ x ∈ c, isV x = true) ∧ K c []
  | _ => False

theorem isV_rep {w w' : World} {E E' : Env} {lo lo' : Nat} {p : PV} {x : Value} (h : isV p = true) (hp : Rep w E lo p x) : Rep w' E' lo' p x ∧ x.oneCell' = true := by
  cases p <;> simp [isV] at h
  have := hp.v_eq; subst this
  exact ⟨.v _, h⟩

/-- What 'pureK' gives, whatever turns beside it, as long as those rows are written no more and their blocks stand. -/
theorem pureK_sound {G : Ghost} {rw : Nat → Row} {p : PV} {x : Value} {w : World} {E : Env} {K : List PV → List Nat → Prop} (hk : pureK rw p K) (hR : E.R = rw) (hw : WOk G E w) (hp : Rep w E 0 p x) :
    ∃ c f, K c f ∧ c.length = x.cells.size ∧ (∀ y ∈ x.cells.toList, y.oneCell' = true) ∧ (∀ j ∈ f, j < lent ∧ ∃ e sz fz cc, (E.R j).kind = .sli e sz fz cc) ∧
      ∀ (w' : World) (E' : Env), Lasts w w' E E' → E'.B = E.B → (∀ j ∈ f, ∀ b, E.rm j = some b → w'.heap[b]? = w.heap[b]? ∧ ¬ E'.L b) → RepL w' E'.bare E'.B c x.cells.toList := by
  subst hR
  cases hp with
  | v =>
    refine ⟨_, _, hk.2, by rw [cells_of_one hk.1]; rfl, fun y hy => ?_, by simp, fun w' E' _ _ _ => ?_⟩
    · rw [cells_of_one hk.1] at hy; simp at hy; subst hy; exact hk.1
    · rw [cells_of_one hk.1]; exact ⟨rfl, fun i a b => by simp at a; subst a; exact .v _⟩
  | @sl _ _ fr sz len cap cells a cs hl hc hm hr hh =>
    obtain ⟨rfl, hk⟩ := hk
    refine ⟨_, _, hk, rfl, fun y hy => by simp [Value.cells] at hy; subst hy; rfl, by simp, fun w' E' hla hB _ => ⟨rfl, fun i a b => ?_⟩⟩
    simp at a; subst a
    have e1 : E.lo 0 true = E.B := by simp [Env.lo]
    have e2 : E'.bare.lo E'.B false = E'.B := by simp [Env.lo, Env.bare]
    refine Rep.sl cs hl hc hm (fun i hi => ?_) (fun i hi => ?_)
    · obtain ⟨b', o, ha, hb', hL, hcell⟩ := hr i hi
      obtain ⟨h1, h2⟩ := hla.cells b' (lt_of_cell hcell) hL
      exact ⟨b', o, ha, by rw [e2, hB, ← e1]; exact hb', h2, (cell_of_block h1).trans hcell⟩
    · rw [e2]
      exact (hh i hi).mono hla.bare (by rw [e1, hB]; exact Nat.le_refl _)
  | @own _ _ k ver _ hv hx =>
    obtain ⟨h1, h2, hk⟩ := hk
    have hrow := hw.rows k
    unfold RowOk at hrow
    cases hkd : (E.R k).kind with
    | dead => simp only [hkd] at hk
    | box t c => simp only [hkd] at hk
    | nil =>
      simp only [hkd] at hk hrow
      rw [hx h1 (by rw [hkd]; rfl), hrow.2]
      exact ⟨_, _, hk, rfl, fun y hy => by simp [Value.cells] at hy; subst hy; rfl, by simp, fun w' E' _ _ _ => ⟨rfl, fun i a b => by simp at a; subst a; exact rep_nil _ _ _ _ _⟩⟩
    | sli e sz fz c =>
      simp only [hkd] at hk hrow
      have hxe := hx h1 (by rw [hkd]; rfl)
      rcases hrow with ⟨g1, g2, g3⟩ | ⟨b, n, cap, vs, rest, g1, g2, g3, g4, g5, g6, g7, g8, g9⟩
      · rw [hxe, g2]
        subst g3
        exact ⟨_, _, hk, rfl, fun y hy => by simp [Value.cells] at hy; subst hy; rfl, fun j hj => by simp at hj; subst hj; exact ⟨h2, _, _, _, _, hkd⟩,
          fun w' E' _ _ _ => ⟨rfl, fun i a b => by simp at a; subst a; exact rep_nil _ _ _ _ _⟩⟩
      · rw [hxe, g3]
        refine ⟨_, _, hk, rfl, fun y hy => by simp [Value.cells] at hy; subst hy; rfl, fun j hj => by simp at hj; subst hj; exact ⟨h2, _, _, _, _, hkd⟩, fun w' E' hla hB hf => ⟨rfl, fun i a b' => ?_⟩⟩
        simp at a; subst a
        obtain ⟨q1, q2⟩ := hf k (by simp) b g1
        have hB' : E.B ≤ b := by
          rw [hw.base]
          rcases g2 with g2 | g2
          · exact g2
          · exact absurd g2.1 (by omega)
        have e2 : E'.bare.lo E'.B false = E'.B := by simp [Env.lo, Env.bare]
        refine Rep.sl (fun i => vs.getD i undef) (g9.1.trans g5) g6 g7 (fun i hi => ⟨b, 0, rfl, by rw [e2, hB]; exact hB', q2, ?_⟩) (fun i hi => ?_)
        · have hi' : i < vs.length := by rw [← g9.1]; exact hi
          rw [Nat.zero_add, cell_of_list (q1.trans g4) (by simp; omega)]
          simp [List.getElem_append_left hi', List.getD, hi']
        · have hi' : i < vs.length := by rw [← g9.1]; exact hi
          have e : vs.getD i undef = vs[i] := by simp [List.getD, hi']
          rw [e, e2]
          exact (g9.2 i hi hi').mono hla.bare (by rw [hB]; exact Nat.le_refl _)
  | @ag _ _ c vs hl hh =>
    refine ⟨_, _, hk.2, by simpa [Value.cells] using hl, fun y hy => ?_, by simp, fun w' E' _ _ _ => ⟨hl, fun i a b => ?_⟩⟩
    · obtain ⟨i, hi, rfl⟩ := List.getElem_of_mem hy
      have hi' : i < c.length := by rw [hl]; exact hi
      exact (isV_rep (w' := w) (E' := E) (lo' := 0) (hk.1 _ (List.getElem_mem hi')) (hh i hi' hi)).2
    · exact (isV_rep (hk.1 _ (List.getElem_mem a)) (hh i a b)).1
  | ref => exact hk.elim
  | eref => exact hk.elim
  | tup => exact hk.elim
  | clo => exact hk.elim
  | junk => exact hk.elim

end Go.Abs
