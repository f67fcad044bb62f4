/- DERIVED by an AI agent. Abstract values, rows and states over the model; the reading of an abstract value in memory and how it lasts. No program in sight. -/
import Derived.WalkKit
import Derived.Orders
namespace Go.Abs

/-- An abstract value. -/
inductive PV where
  | v (x : Value)
  | sl (fr : Bool) (sz : Nat) (cells : List PV)
  | own (k ver : Nat)
  | ref (k ver off : Nat)
  | eref (fr : Bool) (cells : List PV) (off : Nat)
  | ag (cells : List PV)
  | tup (parts : List PV)
  | clo (f : FuncId) (caps : List PV)
  | junk
  deriving Inhabited

inductive RK where
  | dead
  | nil
  | box (t : TypeId) (cells : List PV)
  | sli (e : TypeId) (sz : Nat) (fz : Bool) (cells : List PV)

def RK.nd : RK → Bool | .dead => false | _ => true
def RK.live : RK → Bool | .box _ _ => true | .sli _ _ fz _ => !fz | _ => false
def RK.slice : RK → Bool | .nil => true | .sli _ _ _ _ => true | _ => false

structure Row where
  ver : Nat
  kind : RK

structure St where
  sl : Nat → PV
  rw : Nat → Row

/-- The ghost: rows, their blocks, their slice values; the blocks that may turn; the first block of the call's own. -/
structure Env where
  R : Nat → Row
  rm : Nat → Option Nat
  rv : Nat → Value
  L : Nat → Prop
  B : Nat

def Env.lo (E : Env) (lo : Nat) (fr : Bool) : Nat := max lo (if fr = true then E.B else 0)

/-- The ghost of what lies in memory that is only read: no rows. -/
def Env.bare (E : Env) : Env := { R := fun _ => ⟨0, .dead⟩, rm := fun _ => none, rv := fun _ => default, L := E.L, B := 0 }

inductive Rep (w : World) : Env → Nat → PV → Value → Prop
  | v {E : Env} {lo : Nat} (x : Value) : Rep w E lo (.v x) x
  | sl {E : Env} {lo : Nat} {fr : Bool} {sz len cap : Nat} {cells : List PV} {a : Option Addr} (cs : Nat → Value)
      (hl : cells.length = len * sz) (hc : len ≤ cap) (hm : cap ≤ maxLen)
      (hr : ∀ i, i < cells.length → ∃ b o, a = some ⟨b, o, none⟩ ∧ E.lo lo fr ≤ b ∧ ¬ E.L b ∧ w.cell? ⟨b, o + i, none⟩ = some (cs i))
      (hh : ∀ i (h : i < cells.length), Rep w E.bare (E.lo lo fr) cells[i] (cs i)) : Rep w E lo (.sl fr sz cells) (.slice a len cap)
  | own {E : Env} {lo k ver : Nat} {x : Value} (hv : ver ≤ (E.R k).ver) (hx : (E.R k).ver = ver → (E.R k).kind.slice = true → x = E.rv k) : Rep w E lo (.own k ver) x
  | ref {E : Env} {lo k ver off : Nat} {x : Value} (hv : ver ≤ (E.R k).ver)
      (hx : (E.R k).ver = ver → (E.R k).kind.nd = true → ∃ b, E.rm k = some b ∧ x = .pointer (some ⟨b, off, none⟩)) : Rep w E lo (.ref k ver off) x
  | eref {E : Env} {lo : Nat} {fr : Bool} {cells : List PV} {off b o : Nat} (cs : Nat → Value)
      (hr : ∀ i, i < cells.length → E.lo lo fr ≤ b ∧ ¬ E.L b ∧ w.cell? ⟨b, o + i, none⟩ = some (cs i))
      (hh : ∀ i (h : i < cells.length), Rep w E.bare (E.lo lo fr) cells[i] (cs i)) : Rep w E lo (.eref fr cells off) (.pointer (some ⟨b, o + off, none⟩))
  | ag {E : Env} {lo : Nat} {cells : List PV} {vs : List Value} (hl : cells.length = vs.length) (hh : ∀ i (h : i < cells.length) (h' : i < vs.length), Rep w E lo cells[i] vs[i]) :
      Rep w E lo (.ag cells) (.agg vs.toArray)
  | tup {E : Env} {lo : Nat} {cells : List PV} {vs : List Value} (hl : cells.length = vs.length) (hh : ∀ i (h : i < cells.length) (h' : i < vs.length), Rep w E lo cells[i] vs[i]) :
      Rep w E lo (.tup cells) (.tuple vs.toArray)
  | clo {E : Env} {lo : Nat} {f : FuncId} {cells : List PV} {vs : List Value} (hl : cells.length = vs.length) (hh : ∀ i (h : i < cells.length) (h' : i < vs.length), Rep w E lo cells[i] vs[i]) :
      Rep w E lo (.clo f cells) (.func (.func f) #[] vs.toArray)
  | junk {E : Env} {lo : Nat} (x : Value) : Rep w E lo .junk x

def RepL (w : World) (E : Env) (lo : Nat) (ps : List PV) (vs : List Value) : Prop :=
  ps.length = vs.length ∧ ∀ i (h : i < ps.length) (h' : i < vs.length), Rep w E lo ps[i] vs[i]

theorem cell_of_block {w w' : World} {b o : Nat} {s : Option Nat} (h : w'.heap[b]? = w.heap[b]?) : w'.cell? ⟨b, o, s⟩ = w.cell? ⟨b, o, s⟩ := by
  simp [World.cell?, h]

theorem lt_of_cell {w : World} {b o : Nat} {v : Value} (h : w.cell? ⟨b, o, none⟩ = some v) : b < w.heap.size :=
  World.block_lt_of_cell? w ⟨b, o, none⟩ h

/-- What must hold of two ghosts and worlds for readings to last. -/
structure Lasts (w w' : World) (E E' : Env) : Prop where
  cells : ∀ b, b < w.heap.size → ¬ E.L b → w'.heap[b]? = w.heap[b]? ∧ ¬ E'.L b
  ver : ∀ k, (E.R k).ver ≤ (E'.R k).ver
  slice : ∀ k, (E'.R k).ver = (E.R k).ver → (E'.R k).kind.slice = true → (E.R k).kind.slice = true ∧ E'.rv k = E.rv k
  nd : ∀ k, (E'.R k).ver = (E.R k).ver → (E'.R k).kind.nd = true → (E.R k).kind.nd = true ∧ E'.rm k = E.rm k
  base : E'.B ≤ E.B

theorem Lasts.bare {w w' : World} {E E' : Env} (h : Lasts w w' E E') : Lasts w w' E.bare E'.bare :=
  ⟨h.cells, fun _ => Nat.le_refl _, fun _ _ h => absurd h (by simp [Env.bare, RK.slice]), fun _ _ h => absurd h (by simp [Env.bare, RK.nd]), Nat.le_refl _⟩

theorem Rep.mono {w w' : World} {E E' : Env} (hh : Lasts w w' E E') {lo : Nat} {p : PV} {x : Value} (h : Rep w E lo p x) : ∀ {lo' : Nat}, lo' ≤ lo → Rep w' E' lo' p x := by
  induction h generalizing E' with
  | v x => exact fun _ => .v x
  | @sl E lo fr sz len cap cells a cs hl hc hm hr hcs ih =>
    intro lo' hlo
    have hle : E'.lo lo' fr ≤ E.lo lo fr := by
      have := hh.base; unfold Env.lo; cases fr <;> simp <;> omega
    refine .sl cs hl hc hm (fun i hi => ?_) (fun i hi => ih i hi hh.bare hle)
    obtain ⟨b, o, ha, hb, hL, hcell⟩ := hr i hi
    obtain ⟨e1, e2⟩ := hh.cells b (lt_of_cell hcell) hL
    exact ⟨b, o, ha, Nat.le_trans hle hb, e2, (cell_of_block e1).trans hcell⟩
  | @own E lo k ver x hv hx =>
    intro lo' _
    refine .own (Nat.le_trans hv (hh.ver k)) fun he hs => ?_
    have e : (E'.R k).ver = (E.R k).ver := by have := hh.ver k; omega
    obtain ⟨a1, a2⟩ := hh.slice k e hs
    rw [a2]; exact hx (by omega) a1
  | @ref E lo k ver off x hv hx =>
    intro lo' _
    refine .ref (Nat.le_trans hv (hh.ver k)) fun he hs => ?_
    have e : (E'.R k).ver = (E.R k).ver := by have := hh.ver k; omega
    obtain ⟨a1, a2⟩ := hh.nd k e hs
    rw [a2]; exact hx (by omega) a1
  | @eref E lo fr cells off b o cs hr hcs ih =>
    intro lo' hlo
    have hle : E'.lo lo' fr ≤ E.lo lo fr := by
      have := hh.base; unfold Env.lo; cases fr <;> simp <;> omega
    refine .eref cs (fun i hi => ?_) (fun i hi => ih i hi hh.bare hle)
    obtain ⟨hb, hL, hcell⟩ := hr i hi
    obtain ⟨e1, e2⟩ := hh.cells _ (lt_of_cell hcell) hL
    exact ⟨Nat.le_trans hle hb, e2, (cell_of_block e1).trans hcell⟩
  | ag hl _ ih => exact fun hlo => .ag hl (fun i a b => ih i a b hh hlo)
  | tup hl _ ih => exact fun hlo => .tup hl (fun i a b => ih i a b hh hlo)
  | clo hl _ ih => exact fun hlo => .clo hl (fun i a b => ih i a b hh hlo)
  | junk x => exact fun _ => .junk x

theorem Lasts.refl (w : World) (E : Env) : Lasts w w E E := ⟨fun _ _ h => ⟨rfl, h⟩, fun _ => Nat.le_refl _, fun _ _ h => ⟨h, rfl⟩, fun _ _ h => ⟨h, rfl⟩, Nat.le_refl _⟩
theorem Rep.low {w : World} {E : Env} {lo lo' : Nat} {p : PV} {x : Value} (h : Rep w E lo p x) (hl : lo' ≤ lo) : Rep w E lo' p x := h.mono (Lasts.refl w E) hl

theorem RepL.mono {w w' : World} {E E' : Env} {lo lo' : Nat} {ps : List PV} {vs : List Value} (hh : Lasts w w' E E') (hl : lo' ≤ lo) (h : RepL w E lo ps vs) : RepL w' E' lo' ps vs :=
  ⟨h.1, fun i a b => (h.2 i a b).mono hh hl⟩

/-- A row as memory has it. -/
def RowOk (w : World) (E : Env) (C : Nat → Nat → Prop) (k : Nat) : Prop :=
  match (E.R k).kind with
  | .dead => True
  | .nil => E.rm k = none ∧ E.rv k = .slice none 0 0
  | .box t cells => ∃ b vs, E.rm k = some b ∧ C k b ∧ w.heap[b]? = some (.cells vs.toArray t (0, 0)) ∧ RepL w E 0 cells vs
  | .sli e sz _ cells =>
    (E.rm k = none ∧ E.rv k = .slice none 0 0 ∧ cells = []) ∨
    ∃ b n cap vs rest, E.rm k = some b ∧ C k b ∧ E.rv k = .slice (some ⟨b, 0, none⟩) n cap ∧ w.heap[b]? = some (.cells (vs ++ rest).toArray e (0, 0)) ∧
      vs.length = n * sz ∧ n ≤ cap ∧ cap ≤ maxLen ∧ (vs ++ rest).length = cap * sz ∧ RepL w E.bare E.B cells vs

structure Ghost where
  w0 : World
  M : Nat → Prop
  n : Nat
  pv : Nat → Nat
  pm : Nat → Option Nat
  px : Nat → Value

/-- What has been there stands, but for the blocks that may be written. -/
structure Kept (G : Ghost) (w : World) : Prop where
  os : w.os = G.w0.os
  tape : w.tape = G.w0.tape
  output : w.output = G.w0.output
  size : G.w0.heap.size ≤ w.heap.size
  block : ∀ b, b < G.w0.heap.size → ¬ G.M b → w.heap[b]? = G.w0.heap[b]?

/-- Rows from here on may be borrowed: their blocks may be older than the call. -/
def lent : Nat := 1000000

def Ghost.C (G : Ghost) (k b : Nat) : Prop := G.w0.heap.size ≤ b ∨ (lent ≤ k ∧ G.M b)

structure WOk (G : Ghost) (E : Env) (w : World) : Prop where
  rows : ∀ k, RowOk w E G.C k
  inj : ∀ k k' b, (E.R k).kind.nd = true → (E.R k').kind.nd = true → E.rm k = some b → E.rm k' = some b → k = k'
  live : ∀ b, E.L b ↔ ∃ k, E.rm k = some b ∧ (E.R k).kind.live = true
  pos : ∀ k, (E.R k).kind.nd = true → 0 < (E.R k).ver
  base : E.B = G.w0.heap.size
  kept : Kept G w
  pin : ∀ k, G.pv k ≤ (E.R k).ver ∧ ((E.R k).ver = G.pv k → (E.R k).kind.slice = true → E.rm k = G.pm k ∧ E.rv k = G.px k)

structure SimE (G : Ghost) (E : Env) (s : St) (a : Act) (w : World) : Prop where
  rw : E.R = s.rw
  wok : WOk G E w
  size : a.tmps.size = G.n
  defers : a.defers = []
  slots : ∀ i, Rep w E 0 (s.sl i) (a.tmps.getD i undef)

def Sim (G : Ghost) (s : St) (a : Act) (w : World) : Prop := ∃ E, SimE G E s a w

def constPV : Value → PV
  | .agg cs => .ag (cs.toList.map PV.v)
  | x => .v x

/-- An operand, abstractly. -/
def St.ev (s : St) : Operand → PV
  | .tmp t => s.sl t
  | .const c => constPV c
  | .func f => .clo f []
  | .global _ => .junk

def St.put (s : St) (d : Option Nat) (p : PV) : St :=
  match d with
  | none => s
  | some d => { s with sl := fun i => if i = d then p else s.sl i }

def St.row (s : St) (k : Nat) (r : Row) : St := { s with rw := fun i => if i = k then r else s.rw i }

theorem eval_rep {w : World} {E : Env} {s : St} {a : Act} (h : ∀ i, Rep w E 0 (s.sl i) (a.tmps.getD i undef)) (x : Operand) : Rep w E 0 (s.ev x) (a.eval x) := by
  cases x with
  | tmp t => exact h t
  | const c =>
    show Rep w E 0 (constPV c) c
    cases c <;> first | exact .v _ | skip
    rename_i cs
    exact .ag (cells := cs.toList.map PV.v) (vs := cs.toList) (by simp) (fun i h h' => by simp; exact .v _)
  | func f => exact .clo (vs := []) rfl (fun i hi => absurd hi (by simp))
  | global g => exact .junk _

/-- A value into a slot. -/
theorem SimE.put {G : Ghost} {E : Env} {s : St} {a : Act} {w : World} (h : SimE G E s a w) {d : Option Nat} (hd : ∀ x, d = some x → x < G.n) {p : PV} {v : Value} (hp : Rep w E 0 p v) :
    SimE G E (s.put d p) (a.put d v) w := by
  cases d with
  | none => exact h
  | some d =>
    refine ⟨h.rw, h.wok, by simpa [Act.put] using h.size, h.defers, fun i => ?_⟩
    simp only [St.put, Act.put, Array.getD_eq_getD_getElem?]
    by_cases hi : i = d
    · subst hi
      have : i < a.tmps.size := by rw [h.size]; exact hd i rfl
      simp [this]; exact hp
    · rw [if_neg hi, Array.getElem?_setIfInBounds_ne (Ne.symm hi)]
      have := h.slots i
      rwa [Array.getD_eq_getD_getElem?] at this

/-- Another world, another ghost: the slots last. -/
theorem SimE.turn {G : Ghost} {E E' : Env} {s : St} {a : Act} {w w' : World} (h : SimE G E s a w) (hl : Lasts w w' E E') (hw : WOk G E' w') : SimE G E' { s with rw := E'.R } a w' :=
  ⟨rfl, hw, h.size, h.defers, fun i => (h.slots i).mono hl (Nat.le_refl _)⟩

/-- Nothing that was there has turned: new blocks at most. -/
structure Ext (w w' : World) : Prop where
  os : w'.os = w.os
  tape : w'.tape = w.tape
  output : w'.output = w.output
  size : w.heap.size ≤ w'.heap.size
  block : ∀ b, b < w.heap.size → w'.heap[b]? = w.heap[b]?

theorem Ext.refl (w : World) : Ext w w := ⟨rfl, rfl, rfl, Nat.le_refl _, fun _ _ => rfl⟩
theorem Ext.trans {a b c : World} (h : Ext a b) (k : Ext b c) : Ext a c :=
  ⟨k.os.trans h.os, k.tape.trans h.tape, k.output.trans h.output, Nat.le_trans h.size k.size, fun i hi => (k.block i (Nat.lt_of_lt_of_le hi h.size)).trans (h.block i hi)⟩
theorem Ext.lasts {w w' : World} (h : Ext w w') (E : Env) : Lasts w w' E E :=
  ⟨fun b hb hL => ⟨h.block b hb, hL⟩, fun _ => Nat.le_refl _, fun _ _ h => ⟨h, rfl⟩, fun _ _ h => ⟨h, rfl⟩, Nat.le_refl _⟩
theorem Ext.alloc (w : World) (o : Obj) : Ext w (w.alloc o) := ⟨rfl, rfl, rfl, by simp, fun b hb => by show (w.heap.push o)[b]? = _; rw [Array.getElem?_push, if_neg (by omega)]⟩
theorem Ext.drew (w : World) : Ext w w.drew := ⟨rfl, rfl, rfl, Nat.le_refl _, fun _ _ => rfl⟩

theorem get_lt {w : World} {b : Nat} {o : Obj} (h : w.heap[b]? = some o) : b < w.heap.size := (Array.getElem?_eq_some_iff.1 h).1

theorem RowOk.ext {w w' : World} {E : Env} {C : Nat → Nat → Prop} {k : Nat} (h : RowOk w E C k) (hx : Ext w w') : RowOk w' E C k := by
  unfold RowOk at *
  split at h
  · trivial
  · exact h
  · obtain ⟨b, vs, h1, h2, h3, h4⟩ := h
    exact ⟨b, vs, h1, h2, (hx.block b (get_lt h3)).trans h3, h4.mono (hx.lasts E) (Nat.le_refl _)⟩
  · rcases h with h | ⟨b, n, cap, vs, rest, h1, h2, h3, h4, h5, h6, h7, h8, h9⟩
    · exact .inl h
    · exact .inr ⟨b, n, cap, vs, rest, h1, h2, h3, (hx.block b (get_lt h4)).trans h4, h5, h6, h7, h8, h9.mono (hx.lasts E).bare (Nat.le_refl _)⟩

theorem Kept.ext {G : Ghost} {w w' : World} (h : Kept G w) (hx : Ext w w') : Kept G w' :=
  ⟨hx.os.trans h.os, hx.tape.trans h.tape, hx.output.trans h.output, Nat.le_trans h.size hx.size, fun b hb hm => (hx.block b (Nat.lt_of_lt_of_le hb h.size)).trans (h.block b hb hm)⟩

theorem WOk.ext {G : Ghost} {E : Env} {w w' : World} (h : WOk G E w) (hx : Ext w w') : WOk G E w' :=
  ⟨fun k => (h.rows k).ext hx, h.inj, h.live, h.pos, h.base, h.kept.ext hx, h.pin⟩

theorem RK.nd_of_slice {k : RK} (h : k.slice = true) : k.nd = true := by cases k <;> simp_all [RK.slice, RK.nd]

theorem RK.nd_of_live {k : RK} (h : k.live = true) : k.nd = true := by cases k <;> simp_all [RK.live, RK.nd]

/-- A row's block lies in memory, at or above the call's own. -/
theorem WOk.block {G : Ghost} {E : Env} {w : World} (h : WOk G E w) {k b : Nat} (hb : E.rm k = some b) (hn : (E.R k).kind.nd = true) : b < w.heap.size ∧ G.C k b := by
  have hr := h.rows k
  unfold RowOk at hr
  cases hk : (E.R k).kind with
  | dead => rw [hk] at hn; cases hn
  | nil => simp only [hk] at hr; rw [hr.1] at hb; cases hb
  | box t cells =>
    simp only [hk] at hr
    obtain ⟨b', vs, h1, h2, h3, _⟩ := hr
    rw [h1] at hb; cases hb
    exact ⟨get_lt h3, h2⟩
  | sli e sz fz cells =>
    simp only [hk] at hr
    rcases hr with ⟨h1, _, _⟩ | ⟨b', n, cap, vs, rest, h1, h2, h3, h4, _⟩
    · rw [h1] at hb; cases hb
    · rw [h1] at hb; cases hb
      exact ⟨get_lt h4, h2⟩

theorem WOk.low {G : Ghost} {E : Env} {w : World} (h : WOk G E w) {b : Nat} (hL : E.L b) : b < w.heap.size := by
  obtain ⟨k, h1, h2⟩ := (h.live b).1 hL
  exact (h.block h1 (RK.nd_of_live h2)).1

theorem SimE.ext {G : Ghost} {E : Env} {s : St} {a : Act} {w w' : World} (h : SimE G E s a w) (hx : Ext w w') : SimE G E s a w' :=
  ⟨h.rw, h.wok.ext hx, h.size, h.defers, fun i => (h.slots i).mono (hx.lasts E) (Nat.le_refl _)⟩

end Go.Abs
