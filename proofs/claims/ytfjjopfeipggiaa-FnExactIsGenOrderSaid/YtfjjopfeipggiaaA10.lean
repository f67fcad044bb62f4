/- DERIVED by an AI agent. Rows turn: new rows, rows written. No program in sight. -/
import Derived.Test.YtfjjopfeipggiaaA9
namespace Go.Abs

def mkL (R : Nat → Row) (rm : Nat → Option Nat) (b : Nat) : Prop := ∃ k, rm k = some b ∧ (R k).kind.live = true

structure Turn (G : Ghost) (E E' : Env) (w w' : World) (D : Nat → Prop) : Prop where
  L : E'.L = mkL E'.R E'.rm
  B : E'.B = E.B
  keep : ∀ k, ¬ D k → E'.R k = E.R k ∧ E'.rm k = E.rm k ∧ E'.rv k = E.rv k
  blocks : ∀ b, b < w.heap.size → (∀ k, D k → E.rm k = some b → (E.R k).kind.live = false) → w'.heap[b]? = w.heap[b]?
  fresh : ∀ k b, D k → E'.rm k = some b → (E'.R k).kind.nd = true → w.heap.size ≤ b ∨ (E.rm k = some b ∧ (E.R k).kind.nd = true ∧ ((E'.R k).kind.live = true → (E.R k).kind.live = true))
  ver : ∀ k, D k → (E.R k).ver ≤ (E'.R k).ver
  same1 : ∀ k, D k → (E'.R k).ver = (E.R k).ver → (E'.R k).kind.slice = true → (E.R k).kind.slice = true ∧ E'.rv k = E.rv k
  same2 : ∀ k, D k → (E'.R k).ver = (E.R k).ver → (E'.R k).kind.nd = true → (E.R k).kind.nd = true ∧ E'.rm k = E.rm k
  pos : ∀ k, D k → (E'.R k).kind.nd = true → 0 < (E'.R k).ver
  inj : ∀ k k' b, D k → D k' → (E'.R k).kind.nd = true → (E'.R k').kind.nd = true → E'.rm k = some b → E'.rm k' = some b → k = k'
  size : w.heap.size ≤ w'.heap.size
  os : w'.os = w.os
  tape : w'.tape = w.tape
  output : w'.output = w.output

theorem Turn.lasts {G : Ghost} {E E' : Env} {w w' : World} {D : Nat → Prop} (hw : WOk G E w) (h : Turn G E E' w w' D) : Lasts w w' E E' := by
  refine ⟨fun b hb hL => ⟨h.blocks b hb fun k _ hk => ?_, fun hL' => ?_⟩, fun k => ?_, fun k => ?_, fun k => ?_, by rw [h.B]; exact Nat.le_refl _⟩
  · cases hl : (E.R k).kind.live with
    | false => rfl
    | true => exact absurd ((hw.live b).2 ⟨k, hk, hl⟩) hL
  · rw [h.L] at hL'
    obtain ⟨k, hk, hl⟩ := hL'
    by_cases hD : D k
    · rcases h.fresh k b hD hk (RK.nd_of_live hl) with hf | ⟨h1, _, h3⟩
      · omega
      · exact hL ((hw.live b).2 ⟨k, h1, h3 hl⟩)
    · obtain ⟨e1, e2, _⟩ := h.keep k hD
      rw [e1] at hl; rw [e2] at hk
      exact hL ((hw.live b).2 ⟨k, hk, hl⟩)
  · by_cases hD : D k
    · exact h.ver k hD
    · rw [(h.keep k hD).1]; exact Nat.le_refl _
  · by_cases hD : D k
    · exact h.same1 k hD
    · obtain ⟨e1, e2, e3⟩ := h.keep k hD
      rw [e1, e3]; exact fun _ hs => ⟨hs, rfl⟩
  · by_cases hD : D k
    · exact h.same2 k hD
    · obtain ⟨e1, e2, e3⟩ := h.keep k hD
      rw [e1, e2]; exact fun _ hs => ⟨hs, rfl⟩

theorem Turn.wok {G : Ghost} {E E' : Env} {w w' : World} {D : Nat → Prop} (hw : WOk G E w) (h : Turn G E E' w w' D) (hrows : ∀ k, D k → RowOk w' E' G.C k) : WOk G E' w' := by
  have hl := h.lasts hw
  refine ⟨fun k => ?_, fun k k' b n1 n2 e1 e2 => ?_, fun b => by rw [h.L]; rfl, fun k => ?_, by rw [h.B, hw.base], ⟨h.os.trans hw.kept.os, h.tape.trans hw.kept.tape, h.output.trans hw.kept.output, Nat.le_trans hw.kept.size h.size, fun b hb hM => ?_⟩, fun k => ?_⟩
  · by_cases hD : D k
    · exact hrows k hD
    · obtain ⟨e1, e2, e3⟩ := h.keep k hD
      have hr := hw.rows k
      have hblk : ∀ b, E.rm k = some b → (E.R k).kind.nd = true → w'.heap[b]? = w.heap[b]? := fun b hb hn => by
        refine h.blocks b (hw.block hb hn).1 fun j hj hjb => ?_
        cases hlv : (E.R j).kind.live with
        | false => rfl
        | true =>
          have := hw.inj k j b hn (RK.nd_of_live hlv) hb hjb
          subst this
          exact absurd hj hD
      unfold RowOk at hr ⊢
      rw [e1, e2, e3]
      cases hk : (E.R k).kind with
      | dead => trivial
      | nil => simpa only [hk] using hr
      | box t cells =>
        simp only [hk] at hr ⊢
        obtain ⟨b, vs, h1, h2, h3, h4⟩ := hr
        exact ⟨b, vs, h1, h2, (hblk b h1 (by rw [hk]; rfl)).trans h3, h4.mono hl (Nat.le_refl _)⟩
      | sli e sz fz cells =>
        simp only [hk] at hr ⊢
        rcases hr with hr | ⟨b, n, cap, vs, rest, h1, h2, h3, h4, h5, h6, h7, h8, h9⟩
        · exact .inl hr
        · exact .inr ⟨b, n, cap, vs, rest, h1, h2, h3, (hblk b h1 (by rw [hk]; rfl)).trans h4, h5, h6, h7, h8, h9.mono hl.bare (by rw [h.B]; exact Nat.le_refl _)⟩
  · by_cases hD : D k
    · by_cases hD' : D k'
      · exact h.inj k k' b hD hD' n1 n2 e1 e2
      · obtain ⟨f1, f2, _⟩ := h.keep k' hD'
        rw [f1] at n2; rw [f2] at e2
        rcases h.fresh k b hD e1 n1 with hf | ⟨g1, g2, _⟩
        · have := (hw.block e2 n2).1; omega
        · exact hw.inj k k' b g2 n2 g1 e2
    · obtain ⟨f1, f2, _⟩ := h.keep k hD
      rw [f1] at n1; rw [f2] at e1
      by_cases hD' : D k'
      · rcases h.fresh k' b hD' e2 n2 with hf | ⟨g1, g2, _⟩
        · have := (hw.block e1 n1).1; omega
        · exact hw.inj k k' b n1 g2 e1 g1
      · obtain ⟨f1', f2', _⟩ := h.keep k' hD'
        rw [f1'] at n2; rw [f2'] at e2
        exact hw.inj k k' b n1 n2 e1 e2
  · by_cases hD : D k
    · exact h.pos k hD
    · rw [(h.keep k hD).1]; exact hw.pos k
  · refine (h.blocks b (Nat.lt_of_lt_of_le hb hw.kept.size) fun k hD hk => ?_).trans (hw.kept.block b hb hM)
    cases hlv : (E.R k).kind.live with
    | false => rfl
    | true =>
      have := (hw.block hk (RK.nd_of_live hlv)).2
      rcases this with h1 | h1
      · omega
      · exact absurd h1.2 hM
  · obtain ⟨p1, p2⟩ := hw.pin k
    by_cases hD : D k
    · refine ⟨Nat.le_trans p1 (h.ver k hD), fun he hs => ?_⟩
      have hv := h.ver k hD
      have e : (E'.R k).ver = (E.R k).ver := by omega
      obtain ⟨a1, a2⟩ := h.same1 k hD e hs
      obtain ⟨_, b2⟩ := h.same2 k hD e (RK.nd_of_slice hs)
      obtain ⟨q1, q2⟩ := p2 (by omega) a1
      exact ⟨b2.trans q1, a2.trans q2⟩
    · obtain ⟨e1, e2, e3⟩ := h.keep k hD
      rw [e1, e2, e3]; exact ⟨p1, p2⟩

/-- The state whose rows are turned. -/
theorem Turn.sim {G : Ghost} {E E' : Env} {s : St} {a : Act} {w w' : World} {D : Nat → Prop} (hs : SimE G E s a w) (h : Turn G E E' w w' D) (hrows : ∀ k, D k → RowOk w' E' G.C k) :
    SimE G E' { s with rw := E'.R } a w' := hs.turn (h.lasts hs.wok) (h.wok hs.wok hrows)

def updF {α : Type} (f : Nat → α) (k : Nat) (x : α) : Nat → α := fun i => if i = k then x else f i
theorem updF_same {α : Type} (f : Nat → α) (k : Nat) (x : α) : updF f k x k = x := by simp [updF]
theorem updF_other {α : Type} (f : Nat → α) {k i : Nat} (x : α) (h : i ≠ k) : updF f k x i = f i := by simp [updF, h]

/-- One row's turn. -/
def Env.row (E : Env) (k : Nat) (r : Row) (m : Option Nat) (v : Value) : Env :=
  { R := updF E.R k r, rm := updF E.rm k m, rv := updF E.rv k v, L := mkL (updF E.R k r) (updF E.rm k m), B := E.B }

/-- A new row in a new block. -/
theorem turn_new {G : Ghost} {E : Env} {w w' : World} {k : Nat} {kd : RK} {m : Option Nat} {v : Value} (hx : Ext w w') (hm : ∀ b, m = some b → w.heap.size ≤ b) :
    Turn G E (E.row k ⟨(E.R k).ver + 1, kd⟩ m v) w w' (· = k) where
  L := rfl
  B := rfl
  keep j hj := ⟨updF_other _ _ hj, updF_other _ _ hj, updF_other _ _ hj⟩
  blocks b hb _ := hx.block b hb
  fresh j b hj hb _ := by
    subst hj
    simp only [Env.row, updF_same] at hb
    exact .inl (hm b hb)
  ver j hj := by subst hj; simp [Env.row, updF_same]
  same1 j hj h := by subst hj; simp [Env.row, updF_same] at h
  same2 j hj h := by subst hj; simp [Env.row, updF_same] at h
  pos j hj _ := by subst hj; simp [Env.row, updF_same]
  inj j j' b h1 h2 _ _ _ _ := by rw [h1, h2]
  size := hx.size
  os := hx.os
  tape := hx.tape
  output := hx.output

end Go.Abs
