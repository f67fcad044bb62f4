/- DERIVED by an AI agent. -/
import Derived.Test.YtpnknaaehcljoaaA2
/- DERIVED by an AI agent. Calls: a contract at its call, the result only read, or its rows taken over. No program in sight. -/
namespace Go.Abs
set_option linter.unusedSimpArgs false

/-- How deep an argument is looked into. -/
def deep : Nat := 3

/-- A call: the contract, its result. -/
def callK [Held] (P : Program) (rw : Nat → Row) (ev : Operand → PV) (f : Operand) (args : Array Operand) (K : RV → Prop) : Prop :=
  match ev f with
  | .clo g caps => ∃ rv, AC P g ((args.toList.map fun x => lend rw deep (ev x)) ++ caps.map (lend rw deep)) rv ∧ K rv
  | _ => False

section
variable {P : Program} {T : Tab} {G : Ghost} {s : St}

theorem RepL.append {w : World} {E : Env} {lo : Nat} {p q : List PV} {x y : List Value} (h : RepL w E lo p x) (k : RepL w E lo q y) : RepL w E lo (p ++ q) (x ++ y) := by
  refine ⟨by simp [h.1, k.1], fun i a b => ?_⟩
  by_cases hi : i < p.length
  · rw [List.getElem_append_left hi, List.getElem_append_left (by rw [← h.1]; exact hi)]
    exact h.2 i _ _
  · rw [List.getElem_append_right (by omega), List.getElem_append_right (by rw [← h.1]; omega)]
    have e : i - x.length = i - p.length := by rw [h.1]
    have := k.2 (i - p.length) (by simp at a; omega) (by have h0 := h.1; have h1 := k.1; simp at a; omega)
    simpa [e] using this

theorem RepL.map {w : World} {E : Env} {lo : Nat} {α : Type} {l : List α} {f : α → PV} {g : α → Value} (h : ∀ x ∈ l, Rep w E lo (f x) (g x)) : RepL w E lo (l.map f) (l.map g) :=
  ⟨by simp, fun i a b => by simp only [List.getElem_map]; exact h _ (List.getElem_mem _)⟩

theorem OutR.low [Held] {w : World} {E : Env} {rv : RV} {v : Value} {lv : List (Value × Option Nat)} (h : OutR w E rv v lv) : ∀ b ∈ blk lv, E.B ≤ b ∧ b < w.heap.size := by
  have flat : ∀ {bss : List (List (Value × Option Nat))} {b : Nat}, b ∈ blk bss.flatten → ∃ i, ∃ h : i < bss.length, b ∈ blk bss[i] := by
    intro bss b hb
    simp only [blk, List.mem_filterMap] at hb ⊢
    obtain ⟨x, hx, he⟩ := hb
    obtain ⟨l, hl, hx⟩ := List.mem_flatten.1 hx
    obtain ⟨i, hi, rfl⟩ := List.getElem_of_mem hl
    exact ⟨i, hi, x, hx, he⟩
  induction h with
  | im h => intro b hb; simp [blk] at hb
  | nil => intro b hb; simp [blk] at hb
  | fr hB hh => intro b hb; obtain rfl : b = _ := by simpa [blk] using hb
                exact ⟨hB, get_lt hh⟩
  | tbn => intro b hb; simp [blk] at hb
  | @tb _ _ b0 _ _ rows vs _ lvs hB hh hn _ _ _ h1 h2 _ hin ih =>
    intro b hb
    simp only [blk, List.filterMap_cons] at hb
    rcases List.mem_cons.1 hb with rfl | hb
    · exact ⟨hB, get_lt hh⟩
    · obtain ⟨x, hx, he⟩ := List.mem_filterMap.1 hb
      obtain ⟨i, hi, rfl⟩ := List.getElem_of_mem hx
      exact ih i (by omega) (by omega) hi b (by simp [blk, he])
  | ag e1 e2 hh ih =>
    intro b hb
    obtain ⟨i, hi, hb⟩ := flat hb
    exact ih i (by omega) (by omega) hi b hb
  | tup e1 e2 hh ih =>
    intro b hb
    obtain ⟨i, hi, hb⟩ := flat hb
    exact ih i (by omega) (by omega) hi b hb

/-- The call's run: into the function, with the arguments and what is captured. -/
theorem run_call {o : Oper} {c : Call} {f : Operand} (ho : o.op = .call c) (hc : c.callee = .value f) {a : Act} {w : World} {g : FuncId} {vs : List Value} (hf : a.eval f = .func (.func g) #[] vs.toArray)
    (he : Enters P g) : (execOp a.eval o).run P w = .ok (.enter g ((c.args.toList.map a.eval) ++ vs).toArray) w := by
  obtain ⟨fn, h1, h2, h3⟩ := he
  have hn : ¬ fn.name = "runtime.NumGoroutine" := by simpa using h2
  have hb : fn.body.isNone = false := h3
  have hb' : ¬ fn.body = none := by intro h; rw [h] at hb; cases hb
  have e : (c.args.map a.eval) ++ vs.toArray = ((c.args.toList.map a.eval) ++ vs).toArray := by
    apply Array.toList_inj.1; simp
  simp [execOp, ho, resolve, hc, hf, Deferred.ofValue, invoke, callFunc, h1, hn, hb']

theorem call_wp [Held] {o : Oper} {c : Call} {f : Operand} {Kr : RV → Prop} (ho : o.op = .call c) (hc : c.callee = .value f) (hk : callK P s.rw s.ev f c.args Kr) :
    ∃ rv, Kr rv ∧ ∀ (E : Env) (a : Act) (w : World), E.R = s.rw → WOk G E w → (∀ x ∈ o.op.operands, Rep w E 0 (s.ev x) (a.eval x)) →
      ∀ (K : Act → World → Prop) (Q : Exit → Act → World → Prop), (∀ v w' lv, Ext w w' → OutR w' (Env.out w.heap.size (blk lv)) rv v lv → (blk lv).Nodup → K (a.put o.dst v) w') → o.wp P a w K Q := by
  unfold callK at hk
  split at hk
  · rename_i g caps hev
    obtain ⟨rv, hac, hk⟩ := hk
    refine ⟨rv, hk, fun E a w hR hw hx K Q hK => ?_⟩
    have hfx := hx f (by simp [ho, Op.operands, Call.operands, hc])
    rw [hev] at hfx
    generalize hvf : a.eval f = vf at hfx
    cases hfx with
    | @clo _ _ _ _ vs hl hh =>
      have hargs : RepL w (Env.inn w.heap.size) 0 ((c.args.toList.map fun x => lend s.rw deep (s.ev x)) ++ caps.map (lend s.rw deep)) (c.args.toList.map a.eval ++ vs) := by
        refine RepL.append (RepL.map fun x hx' => ?_) ⟨by simp [hl], fun i p q => ?_⟩
        · rw [← hR]; exact lend_sound hw _ _ (hx x (by simp [ho, Op.operands, Call.operands, hc]; exact .inr (by simpa using hx')))
        · simp only [List.getElem_map]
          have := lend_sound hw w.heap.size deep (hh i (by simpa using p) q)
          rwa [hR] at this
      have hcall := hac.2 w _ hw.held hargs
      unfold Oper.wp
      rw [run_call ho hc hvf hac.1]
      show Calls P g _ w _
      refine hcall.mono fun e w' ⟨v, bs, he, hext, hout, hnd⟩ => ?_
      subst he
      exact hK v w' bs hext hout hnd
  · exact hk.elim

/-- A call whose result is only read. -/
def quietK [Held] (P : Program) (T : Tab) (rw : Nat → Row) (ev : Operand → PV) (op : Op) (K : PV → Prop) : Prop :=
  match op with
  | .call c => (match c.callee with | .value f => callK P rw ev f c.args (fun rv => K rv.imm) | _ => valK T rw ev op K)
  | _ => valK T rw ev op K

theorem quiet_sound [Held] (hT : T.Ok P) {K : PV → Prop} {o : Oper} (hk : quietK P T s.rw s.ev o.op K) : ∃ p, K p ∧ Yields P G s o p := by
  unfold quietK at hk
  split at hk
  · rename_i c ho
    split at hk
    · rename_i f hc
      obtain ⟨rv, hk, h⟩ := call_wp (G := G) ho hc hk
      refine ⟨_, hk, fun E a w hR hw hx K' Q hK => h E a w hR hw hx K' Q fun v w' bs hext hout hnd => hK v w' hext ?_⟩
      refine hout.rep (fun b hb hE => hb (.inl (hw.low hE))) (fun b hb hE => ?_) ?_
      · have h1 := hw.low hE
        have h2 := (hout.low b hb).1
        exact absurd h1 (by simpa [Env.out] using h2)
      · show E.B ≤ w.heap.size
        rw [hw.base]; exact hw.kept.size
    · exact val_sound hT hk
  · exact val_sound hT hk

end
end Go.Abs

/- DERIVED by an AI agent. Rows turn: new rows, rows written. No program in sight. -/
namespace Go.Abs

def mkL (X : Nat → Prop) (R : Nat → Row) (rm : Nat → Option Nat) (b : Nat) : Prop := (∃ k, rm k = some b ∧ (R k).kind.live = true) ∨ X b

structure Turn [Held] (G : Ghost) (E E' : Env) (w w' : World) (D : Nat → Prop) : Prop where
  L : E'.L = mkL E'.X E'.R E'.rm
  B : E'.B = E.B
  X : E'.X = E.X
  keep : ∀ k, ¬ D k → E'.R k = E.R k ∧ E'.rm k = E.rm k ∧ E'.rv k = E.rv k
  blocks : ∀ b, b < w.heap.size → (∀ k, D k → E.rm k = some b → (E.R k).kind.live = false) → w'.heap[b]? = w.heap[b]?
  fresh : ∀ k b, D k → E'.rm k = some b → (E'.R k).kind.nd = true → w.heap.size ≤ b ∨ (E.rm k = some b ∧ (E.R k).kind.nd = true ∧ ((E'.R k).kind.live = true → (E.R k).kind.live = true))
  ver : ∀ k, D k → (E.R k).ver ≤ (E'.R k).ver
  same1 : ∀ k, D k → (E'.R k).ver = (E.R k).ver → (E'.R k).kind.slice = true → (E.R k).kind.slice = true ∧ E'.rv k = E.rv k
  same2 : ∀ k, D k → (E'.R k).ver = (E.R k).ver → (E'.R k).kind.nd = true → (E.R k).kind.nd = true ∧ E'.rm k = E.rm k
  pos : ∀ k, D k → (E'.R k).kind.nd = true → 0 < (E'.R k).ver
  inj : ∀ k k' b, D k → D k' → (E'.R k).kind.nd = true → (E'.R k').kind.nd = true → E'.rm k = some b → E'.rm k' = some b → k = k'
  size : w.heap.size ≤ w'.heap.size
  os : w'.os = w.os
  tape : w'.tape = w.tape
  output : OutLe w w'

theorem Turn.lasts [Held] {G : Ghost} {E E' : Env} {w w' : World} {D : Nat → Prop} (hw : WOk G E w) (h : Turn G E E' w w' D) : Lasts w w' E E' := by
  refine ⟨fun b hb hL => ⟨h.blocks b hb fun k _ hk => ?_, fun hL' => ?_⟩, fun k => ?_, fun k => ?_, fun k => ?_, by rw [h.B]; exact Nat.le_refl _⟩
  · cases hl : (E.R k).kind.live with
    | false => rfl
    | true => exact absurd ((hw.live b).2 (.inl ⟨k, hk, hl⟩)) hL
  · rw [h.L] at hL'
    rcases hL' with ⟨k, hk, hl⟩ | hX
    rotate_left
    · rw [h.X] at hX; exact hL ((hw.live b).2 (.inr hX))
    by_cases hD : D k
    · rcases h.fresh k b hD hk (RK.nd_of_live hl) with hf | ⟨h1, _, h3⟩
      · omega
      · exact hL ((hw.live b).2 (.inl ⟨k, h1, h3 hl⟩))
    · obtain ⟨e1, e2, _⟩ := h.keep k hD
      rw [e1] at hl; rw [e2] at hk
      exact hL ((hw.live b).2 (.inl ⟨k, hk, hl⟩))
  · by_cases hD : D k
    · exact h.ver k hD
    · rw [(h.keep k hD).1]; exact Nat.le_refl _
  · by_cases hD : D k
    · exact h.same1 k hD
    · obtain ⟨e1, e2, e3⟩ := h.keep k hD
      rw [e1, e3]; exact fun _ hs => ⟨hs, rfl⟩
  · by_cases hD : D k
    · exact h.same2 k hD
    · obtain ⟨e1, e2, e3⟩ := h.keep k hD
      rw [e1, e2]; exact fun _ hs => ⟨hs, rfl⟩

theorem Turn.wok [Held] {G : Ghost} {E E' : Env} {w w' : World} {D : Nat → Prop} (hw : WOk G E w) (h : Turn G E E' w w' D) (hrows : ∀ k, D k → RowOk w' E' G.C k) : WOk G E' w' := by
  have hl := h.lasts hw
  refine ⟨fun k => ?_, fun k k' b n1 n2 e1 e2 => ?_, fun b => by rw [h.L]; rfl, fun k => ?_, by rw [h.B, hw.base], by rw [h.X, hw.xs], hw.fx, fun k b hn hb hX => ?_, ⟨h.os.trans hw.kept.os, h.tape.trans hw.kept.tape, h.output.trans hw.kept.output, Nat.le_trans hw.kept.size h.size, fun b hb hM => ?_⟩, fun k => ?_⟩
  · by_cases hD : D k
    · exact hrows k hD
    · obtain ⟨e1, e2, e3⟩ := h.keep k hD
      have hr := hw.rows k
      have hblk : ∀ b, E.rm k = some b → (E.R k).kind.nd = true → w'.heap[b]? = w.heap[b]? := fun b hb hn => by
        refine h.blocks b (hw.block hb hn).1 fun j hj hjb => ?_
        cases hlv : (E.R j).kind.live with
        | false => rfl
        | true =>
          have := hw.inj k j b hn (RK.nd_of_live hlv) hb hjb
          subst this
          exact absurd hj hD
      unfold RowOk at hr ⊢
      rw [e1, e2, e3]
      cases hk : (E.R k).kind with
      | dead => trivial
      | nil => simpa only [hk] using hr
      | box t cells =>
        simp only [hk] at hr ⊢
        obtain ⟨b, vs, h1, h2, h3, h4⟩ := hr
        exact ⟨b, vs, h1, h2, (hblk b h1 (by rw [hk]; rfl)).trans h3, h4.mono hl (Nat.le_refl _)⟩
      | sli e sz fz cells =>
        simp only [hk] at hr ⊢
        rcases hr with hr | ⟨b, n, cap, vs, rest, h1, h2, h3, h4, h5, h6, h7, h8, h9⟩
        · exact .inl hr
        · exact .inr ⟨b, n, cap, vs, rest, h1, h2, h3, (hblk b h1 (by rw [hk]; rfl)).trans h4, h5, h6, h7, h8, h9.mono hl.bare (by rw [h.B]; exact Nat.le_refl _)⟩
      | tab e cells =>
        simp only [hk] at hr ⊢
        rcases hr with hr | ⟨b, n, cap, vs, rest, h1, h2, h3, h4, h5, h6, h7, h8, h9⟩
        · exact .inl hr
        · exact .inr ⟨b, n, cap, vs, rest, h1, h2, h3, (hblk b h1 (by rw [hk]; rfl)).trans h4, h5, h6, h7, h8, h9.mono hl (Nat.le_refl _)⟩
  · by_cases hD : D k
    · by_cases hD' : D k'
      · exact h.inj k k' b hD hD' n1 n2 e1 e2
      · obtain ⟨f1, f2, _⟩ := h.keep k' hD'
        rw [f1] at n2; rw [f2] at e2
        rcases h.fresh k b hD e1 n1 with hf | ⟨g1, g2, _⟩
        · have := (hw.block e2 n2).1; omega
        · exact hw.inj k k' b g2 n2 g1 e2
    · obtain ⟨f1, f2, _⟩ := h.keep k hD
      rw [f1] at n1; rw [f2] at e1
      by_cases hD' : D k'
      · rcases h.fresh k' b hD' e2 n2 with hf | ⟨g1, g2, _⟩
        · have := (hw.block e1 n1).1; omega
        · exact hw.inj k k' b n1 g2 e1 g1
      · obtain ⟨f1', f2', _⟩ := h.keep k' hD'
        rw [f1'] at n2; rw [f2'] at e2
        exact hw.inj k k' b n1 n2 e1 e2
  · by_cases hD : D k
    · exact h.pos k hD
    · rw [(h.keep k hD).1]; exact hw.pos k
  · by_cases hD : D k
    · rcases h.fresh k b hD hb hn with hf | ⟨g1, g2, _⟩
      · have := hw.fx.low b hX
        have := hw.kept.size
        omega
      · exact hw.apart k b g2 g1 hX
    · obtain ⟨e1, e2, _⟩ := h.keep k hD
      rw [e1] at hn; rw [e2] at hb
      exact hw.apart k b hn hb hX
  · refine (h.blocks b (Nat.lt_of_lt_of_le hb hw.kept.size) fun k hD hk => ?_).trans (hw.kept.block b hb hM)
    cases hlv : (E.R k).kind.live with
    | false => rfl
    | true =>
      have := (hw.block hk (RK.nd_of_live hlv)).2
      rcases this with h1 | h1
      · omega
      · exact absurd h1.2 (hM k)
  · obtain ⟨p1, p2⟩ := hw.pin k
    by_cases hD : D k
    · refine ⟨Nat.le_trans p1 (h.ver k hD), fun he hs => ?_⟩
      have hv := h.ver k hD
      have e : (E'.R k).ver = (E.R k).ver := by omega
      obtain ⟨b1, b2⟩ := h.same2 k hD e hs
      obtain ⟨q0, q1, q2⟩ := p2 (by omega) b1
      refine ⟨q0, b2.trans q1, fun hs => ?_⟩
      obtain ⟨a1, a2⟩ := h.same1 k hD e hs
      exact ⟨(q2 a1).1, a2.trans (q2 a1).2⟩
    · obtain ⟨e1, e2, e3⟩ := h.keep k hD
      rw [e1, e2, e3]; exact ⟨p1, p2⟩

/-- The state whose rows are turned. -/
theorem Turn.sim [Held] {G : Ghost} {E E' : Env} {s : St} {a : Act} {w w' : World} {D : Nat → Prop} (hs : SimE G E s a w) (h : Turn G E E' w w' D) (hrows : ∀ k, D k → RowOk w' E' G.C k) :
    SimE G E' { s with rw := E'.R } a w' := hs.turn (h.lasts hs.wok) (h.wok hs.wok hrows)

def updF {α : Type} (f : Nat → α) (k : Nat) (x : α) : Nat → α := fun i => if i = k then x else f i
theorem updF_same {α : Type} (f : Nat → α) (k : Nat) (x : α) : updF f k x k = x := by simp [updF]
theorem updF_other {α : Type} (f : Nat → α) {k i : Nat} (x : α) (h : i ≠ k) : updF f k x i = f i := by simp [updF, h]

/-- One row's turn. -/
def Env.row (E : Env) (k : Nat) (r : Row) (m : Option Nat) (v : Value) : Env :=
  { R := updF E.R k r, rm := updF E.rm k m, rv := updF E.rv k v, L := mkL E.X (updF E.R k r) (updF E.rm k m), B := E.B, X := E.X }

/-- A new row in a new block. -/
theorem turn_new [Held] {G : Ghost} {E : Env} {w w' : World} {k : Nat} {kd : RK} {m : Option Nat} {v : Value} (hx : Ext w w') (hm : ∀ b, m = some b → w.heap.size ≤ b) :
    Turn G E (E.row k ⟨(E.R k).ver + 1, kd⟩ m v) w w' (· = k) where
  L := rfl
  B := rfl
  X := rfl
  keep j hj := ⟨updF_other _ _ hj, updF_other _ _ hj, updF_other _ _ hj⟩
  blocks b hb _ := hx.block b hb
  fresh j b hj hb _ := by
    subst hj
    simp only [Env.row, updF_same] at hb
    exact .inl (hm b hb)
  ver j hj := by subst hj; simp [Env.row, updF_same]
  same1 j hj h := by subst hj; simp [Env.row, updF_same] at h
  same2 j hj h := by subst hj; simp [Env.row, updF_same] at h
  pos j hj _ := by subst hj; simp [Env.row, updF_same]
  inj j j' b h1 h2 _ _ _ _ := by rw [h1, h2]
  size := hx.size
  os := hx.os
  tape := hx.tape
  output := hx.output

end Go.Abs

/- DERIVED by an AI agent. The operations that make memory: new rows. No program in sight. -/
namespace Go.Abs
set_option linter.unusedSimpArgs false

/-- What an operation makes of the state, wherever the state fits. -/
def Effects [Held] (P : Program) (G : Ghost) (s : St) (o : Oper) (s' : St) : Prop :=
  ∀ (a : Act) (w : World), Sim G s a w → ∀ (K : Act → World → Prop) (Q : Exit → Act → World → Prop), (∀ a' w', Sim G s' a' w' → K a' w') → o.wp P a w K Q

theorem St.row_eq (s : St) (k : Nat) (r : Row) : s.row k r = { s with rw := updF s.rw k r } := rfl

section
variable {P : Program} {T : Tab} {G : Ghost} {s : St} {E : Env} {a : Act} {w w' : World} {o : Oper}

theorem eff_value [Held] {E' : Env} {D : Nat → Prop} {v : Value} {p : PV} (hs : SimE G E s a w) (hrun : (execOp a.eval o).run P w = .ok (.value v) w') (ht : Turn G E E' w w' D)
    (hrows : ∀ k, D k → RowOk w' E' G.C k) (hp : Rep w' E' 0 p v) (hd : ∀ x, o.dst = some x → x < G.n) {K : Act → World → Prop} {Q : Exit → Act → World → Prop}
    (hK : ∀ a' w', Sim G (St.put { s with rw := E'.R } o.dst p) a' w' → K a' w') : o.wp P a w K Q :=
  wp_of_value hrun (hK _ _ ⟨E', (ht.sim hs hrows).put hd hp⟩)

/-- A value as cells of a variable. -/
def cellsK (rw : Nat → Row) (p : PV) (K : List PV → Prop) : Prop :=
  match p with
  | .ag c => K c
  | .v x => x.oneCell' = true ∧ K [p]
  | .sl _ _ _ => K [p]
  | .eref _ _ _ => K [p]
  | .clo _ _ => K [p]
  | .own k ver => (rw k).ver = ver ∧ (rw k).kind.slice = true ∧ K [p]
  | .ref k ver _ => (rw k).ver = ver ∧ (rw k).kind.nd = true ∧ K [p]
  | _ => False

theorem slice_row [Held] (hw : WOk G E w) {k : Nat} (hk : (E.R k).kind.slice = true) : ∃ ad n c, E.rv k = .slice ad n c := by
  have hr := hw.rows k
  unfold RowOk at hr
  cases hkd : (E.R k).kind with
  | dead => rw [hkd] at hk; cases hk
  | box t c => rw [hkd] at hk; cases hk
  | nil => simp only [hkd] at hr; exact ⟨_, _, _, hr.2⟩
  | sli e sz fz c =>
    simp only [hkd] at hr
    rcases hr with ⟨_, h, _⟩ | ⟨b, n, cap, vs, rest, h1, h2, h3, _⟩
    · exact ⟨_, _, _, h⟩
    · exact ⟨_, _, _, h3⟩
  | tab e c =>
    simp only [hkd] at hr
    rcases hr with ⟨_, h, _⟩ | ⟨b, n, cap, vs, rest, h1, h2, h3, _⟩
    · exact ⟨_, _, _, h⟩
    · exact ⟨_, _, _, h3⟩

theorem cells_of_one {x : Value} (h : x.oneCell' = true) : x.cells = #[x] := by
  cases x <;> simp [Value.oneCell', Value.cells] at h ⊢

theorem cellsK_sound [Held] {rw : Nat → Row} {p : PV} {x : Value} {K : List PV → Prop} (hk : cellsK rw p K) (hR : E.R = rw) (hw : WOk G E w) (hp : Rep w E 0 p x) :
    ∃ c, K c ∧ RepL w E 0 c x.cells.toList ∧ (∀ y ∈ x.cells.toList, p = .ag c ∨ y.oneCell' = true) := by
  subst hR
  have one : ∀ (h1 : x.oneCell' = true), RepL w E 0 [p] x.cells.toList := fun h1 => by
    rw [cells_of_one h1]
    exact ⟨rfl, fun i a b => by simp at a; subst a; simpa using hp⟩
  have one' : ∀ (h1 : x.oneCell' = true) (c : List PV), (∀ y ∈ x.cells.toList, p = .ag c ∨ y.oneCell' = true) := fun h1 c y hy => by
    rw [cells_of_one h1] at hy
    simp at hy; subst hy; exact .inr h1
  cases hp with
  | v => exact ⟨_, hk.2, one hk.1, one' hk.1 _⟩
  | sl => exact ⟨_, hk, one rfl, one' rfl _⟩
  | @own _ _ k ver _ hv hx =>
    obtain ⟨h1, h2, hk⟩ := hk
    obtain ⟨ad, n, c, he⟩ := slice_row hw h2
    have hxe := hx h1 h2
    rw [he] at hxe
    exact ⟨_, hk, one (by rw [hxe]; rfl), one' (by rw [hxe]; rfl) _⟩
  | @ref _ _ k ver off _ hv hx =>
    obtain ⟨h1, h2, hk⟩ := hk
    obtain ⟨b, _, hxe⟩ := hx h1 h2
    exact ⟨_, hk, one (by rw [hxe]; rfl), one' (by rw [hxe]; rfl) _⟩
  | eref => exact ⟨_, hk, one rfl, one' rfl _⟩
  | @ag _ _ c vs hl hh => exact ⟨_, hk, ⟨hl, hh⟩, fun y hy => .inl rfl⟩
  | tup => exact hk.elim
  | clo => exact ⟨_, hk, one rfl, one' rfl _⟩
  | junk => exact hk.elim

def newSt (s : St) (d : Nat) (kd : RK) (p : Nat → PV) : St := (s.row d ⟨(s.rw d).ver + 1, kd⟩).put (some d) (p ((s.rw d).ver + 1))

/-- A variable of the call's own. -/
theorem eff_box [Held] {d : Nat} {t : TypeId} {c : List PV} {vs : List Value} (hs : SimE G E s a w) (hdst : o.dst = some d) (hd : d < G.n) (hc : RepL w E 0 c vs)
    (hrun : (execOp a.eval o).run P w = .ok (.value (.pointer (some ⟨w.heap.size, 0, none⟩))) (w.alloc (.cells vs.toArray t)))
    {K : Act → World → Prop} {Q : Exit → Act → World → Prop} (hK : ∀ a' w', Sim G (newSt s d (.box t c) (fun v => .ref d v 0)) a' w' → K a' w') : o.wp P a w K Q := by
  have hx : Ext w (w.alloc (.cells vs.toArray t)) := Ext.alloc _ _
  have ht := turn_new (G := G) (E := E) (k := d) (kd := .box t c) (m := some w.heap.size) (v := default) hx (by simp)
  refine eff_value (E' := E.row d _ _ _) (p := .ref d ((s.rw d).ver + 1) 0) hs hrun ht (fun k hk => ?_) ?_ (by simp [hdst, hd]) (fun a' w' h => hK a' w' ?_)
  · subst hk
    unfold RowOk
    simp only [Env.row, updF_same]
    exact ⟨w.heap.size, vs, rfl, .inl hs.wok.kept.size, heap_alloc_new w _, hc.mono (ht.lasts hs.wok) (Nat.le_refl _)⟩
  · refine .ref (by simp [Env.row, updF_same, hs.rw]) fun _ _ => ⟨w.heap.size, by simp [Env.row, updF_same], rfl⟩
  · have e : (E.row d ⟨(E.R d).ver + 1, .box t c⟩ (some w.heap.size) default).R = (s.row d ⟨(s.rw d).ver + 1, .box t c⟩).rw := by
      simp only [Env.row, hs.rw]; rfl
    rw [e, hdst] at h
    exact h

/-- A row of the call's own. -/
theorem eff_row [Held] {d n cap : Nat} {e : TypeId} {sz : Nat} {c : List PV} {vs rest : List Value} (hs : SimE G E s a w) (hdst : o.dst = some d) (hd : d < G.n)
    (hc : RepL w E.bare E.B c vs) (h1 : vs.length = n * sz) (h2 : n ≤ cap) (h3 : cap ≤ maxLen) (h4 : (vs ++ rest).length = cap * sz)
    (hx : Ext w w') (hnew : w'.heap[w.heap.size]? = some (.cells (vs ++ rest).toArray e (0, 0)))
    (hrun : (execOp a.eval o).run P w = .ok (.value (.slice (some ⟨w.heap.size, 0, none⟩) n cap)) w')
    {K : Act → World → Prop} {Q : Exit → Act → World → Prop} (hK : ∀ a' w', Sim G (newSt s d (.sli e sz false c) (fun v => .own d v)) a' w' → K a' w') : o.wp P a w K Q := by
  have ht := turn_new (G := G) (E := E) (k := d) (kd := .sli e sz false c) (m := some w.heap.size) (v := .slice (some ⟨w.heap.size, 0, none⟩) n cap) hx (by simp)
  refine eff_value (E' := E.row d _ _ _) (p := .own d ((s.rw d).ver + 1)) hs hrun ht (fun k hk => ?_) ?_ (by simp [hdst, hd]) (fun a' w' h => hK a' w' ?_)
  · subst hk
    unfold RowOk
    simp only [Env.row, updF_same]
    refine .inr ⟨w.heap.size, n, cap, vs, rest, rfl, .inl hs.wok.kept.size, rfl, hnew, h1, h2, h3, h4, ?_⟩
    exact hc.mono (ht.lasts hs.wok).bare (Nat.le_refl _)
  · refine .own (by simp [Env.row, updF_same, hs.rw]) fun _ _ => by simp [Env.row, updF_same]
  · have e' : (E.row d ⟨(E.R d).ver + 1, .sli e sz false c⟩ (some w.heap.size) (.slice (some ⟨w.heap.size, 0, none⟩) n cap)).R = (s.row d ⟨(s.rw d).ver + 1, .sli e sz false c⟩).rw := by
      simp only [Env.row, hs.rw]; rfl
    rw [e', hdst] at h
    exact h

/-- A nil slice that will be appended to. -/
theorem eff_nil [Held] {d : Nat} {kd : RK} (hkd : kd = .nil ∨ ∃ e sz, kd = .sli e sz false []) (hs : SimE G E s a w) (hdst : o.dst = some d) (hd : d < G.n) (hx : Ext w w')
    (hrun : (execOp a.eval o).run P w = .ok (.value (.slice none 0 0)) w')
    {K : Act → World → Prop} {Q : Exit → Act → World → Prop} (hK : ∀ a' w', Sim G (newSt s d kd (fun v => .own d v)) a' w' → K a' w') : o.wp P a w K Q := by
  have ht := turn_new (G := G) (E := E) (k := d) (kd := kd) (m := none) (v := .slice none 0 0) hx (by simp)
  refine eff_value (E' := E.row d _ _ _) (p := .own d ((s.rw d).ver + 1)) hs hrun ht (fun k hk => ?_) ?_ (by simp [hdst, hd]) (fun a' w' h => hK a' w' ?_)
  · subst hk
    unfold RowOk
    simp only [Env.row, updF_same]
    rcases hkd with rfl | ⟨e, sz, rfl⟩
    · simp
    · simp
  · refine .own (by simp [Env.row, updF_same, hs.rw]) fun _ _ => by simp [Env.row, updF_same]
  · have e' : (E.row d ⟨(E.R d).ver + 1, kd⟩ none (.slice none 0 0)).R = (s.row d ⟨(s.rw d).ver + 1, kd⟩).rw := by
      simp only [Env.row, hs.rw]; rfl
    rw [e', hdst] at h
    exact h

end
end Go.Abs

/- DERIVED by an AI agent. Append, as memory has it. No program in sight. -/
namespace Go.Abs
set_option linter.unusedSimpArgs false

/-- A slice of the call's own, as memory has it. -/
def Phys (w : World) (e sz : Nat) (m : Option Nat) (v : Value) (vs : List Value) : Prop :=
  (m = none ∧ v = .slice none 0 0 ∧ vs = []) ∨
  ∃ b n cap rest, m = some b ∧ v = .slice (some ⟨b, 0, none⟩) n cap ∧ w.heap[b]? = some (.cells (vs ++ rest).toArray e (0, 0)) ∧ vs.length = n * sz ∧ n ≤ cap ∧ cap ≤ maxLen ∧ (vs ++ rest).length = cap * sz

/-- What append leaves. -/
structure Appended [Held] (w w' : World) (e sz : Nat) (m m' : Option Nat) (v' : Value) (vs : List Value) : Prop where
  phys : Phys w' e sz m' v' vs
  block : ∀ b, b < w.heap.size → m ≠ some b → w'.heap[b]? = w.heap[b]?
  size : w.heap.size ≤ w'.heap.size
  os : w'.os = w.os
  tape : w'.tape = w.tape
  output : OutLe w w'
  fresh : ∀ b, m' = some b → m = some b ∨ w.heap.size ≤ b

section
variable {P : Program} {T : Tab}

theorem append_phys [Held] (hT : T.Ok P) {t e : TypeId} (ty : TypeId) (ht : 0 < (T t).size) (hk : (T t).k = .sli e) (he : 0 < (T e).size) (hb : 0 < (T e).bytes) {w : World} {m : Option Nat} {v : Value} {vs news : List Value}
    (hp : Phys w e (T e).size m v vs) {ax : Option Addr} {mx cx : Nat} (hl : news.length = mx * (T e).size)
    (hnews : ∀ i u, news[i]? = some u → ∃ b o, ax = some ⟨b, o, none⟩ ∧ w.cell? ⟨b, o + i, none⟩ = some u) (h1 : ∀ u ∈ news, u.oneCell' = true)
    (hlen : (vs.length + news.length) * (T e).bytes ≤ 140737488355328) :
    ∃ v' w' m', (Builtin.append_ #[t, t] ty #[v, .slice ax mx cx]).run P w = .ok v' w' ∧ Appended w w' e (T e).size m m' v' (vs ++ news) := by
  have hf := hT t ht
  have hu : P.underlying t = some (.slice e) := by have := hf.k; rw [hk] at this; exact this
  obtain ⟨i, z, hi, hsz, hby, hz, hzl⟩ := (hT e he).info
  have hsz' : i.size = (T e).size := hsz
  have hzs : z.cells.size = (T e).size := by rw [← Array.length_toList, hzl]; exact (hT e he).zlen
  by_cases hm : mx = 0
  · subst hm
    have hn0 : news = [] := List.eq_nil_of_length_eq_zero (by simpa using hl)
    subst hn0
    refine ⟨v, w, m, ?_, ⟨by simpa using hp, fun _ _ _ => rfl, Nat.le_refl _, rfl, rfl, ⟨rfl, fun _ => by first | exact Nat.le_refl _ | exact Nat.le_succ _⟩, fun b h => .inl h⟩⟩
    rcases hp with ⟨_, rfl, _⟩ | ⟨b, n, cap, rest, _, rfl, _, _, hnc, _⟩
    · cases ax <;> simp [Builtin.append_, run_underlying hu, sizeOf, typeInfo, hi, Builtin.lenOf, Builtin.firstCells, loadCells, loadCellsFrom]
    · cases ax <;> simp [Builtin.append_, run_underlying hu, sizeOf, typeInfo, hi, Builtin.lenOf, Builtin.firstCells, loadCells, loadCellsFrom, hnc, storeCells]
  · have hpos : 0 < news.length := by rw [hl]; exact Nat.mul_pos (by omega) he
    obtain ⟨b0, o0, rfl, _⟩ := hnews 0 news[0] (by simp [hpos])
    have hnews' : ∀ j u, news[j]? = some u → w.cell? ((⟨b0, o0, none⟩ : Addr).add j) = some u := fun j u hj => by
      obtain ⟨b', o', ha, hc⟩ := hnews j u hj
      injection ha with ha
      injection ha with h1 h2
      subst h1; subst h2
      rw [add_addr]; exact hc
    have hmle : mx ≤ news.length := by rw [hl]; exact Nat.le_mul_of_pos_right _ he
    have hbig : vs.length + news.length ≤ 140737488355328 := Nat.le_trans (Nat.le_mul_of_pos_right _ hb) hlen
    rcases hp with ⟨rfl, rfl, rfl⟩ | ⟨b, n, cap, rest, rfl, rfl, hh, hvl, hnc, hcm, hcl⟩
    · have hr := run_append_nil (P := P) w t ty e i z hu hi hz ⟨b0, o0, none⟩ mx cx news (by rw [hl, hsz']) hnews' (by omega) (by omega) (by
        rw [hby]
        have : mx * (T e).bytes ≤ news.length * (T e).bytes := Nat.mul_le_mul_right _ hmle
        simp at hlen; omega)
      refine ⟨_, _, some w.heap.size, hr, ⟨.inr ⟨w.heap.size, mx, _, (Builtin.zeroCells z.cells (grownCap w mx 0 e - mx)).toList, rfl, rfl, ?_, by simpa using hl, grownCap_ge w mx 0 e, grownCap_le_maxLen w mx 0 e (by simp [maxLen]; omega), ?_⟩, fun b hb _ => ?_, by simp, rfl, rfl, ⟨rfl, fun _ => by first | exact Nat.le_refl _ | exact Nat.le_succ _⟩, fun b h => .inr (by simp at h; omega)⟩⟩
      · have := heap_alloc_new w.drew (.cells (news.toArray ++ Builtin.zeroCells z.cells (grownCap w mx 0 e - mx)) e)
        rw [show (([] : List Value) ++ news ++ (Builtin.zeroCells z.cells (grownCap w mx 0 e - mx)).toList).toArray = news.toArray ++ Builtin.zeroCells z.cells (grownCap w mx 0 e - mx) from Array.toList_inj.1 (by simp)]
        exact this
      · have hge := grownCap_ge w mx 0 e
        simp only [List.nil_append, List.length_append, Array.length_toList, size_zeroCells, hzs, hl, ← Nat.add_mul]
        congr 1; omega
      · exact (Ext.alloc w.drew _).block b hb
    · have hn1 : n ≤ vs.length := by rw [hvl]; exact Nat.le_mul_of_pos_right _ he
      by_cases hroom : n + mx ≤ cap
      · have hr := run_append_room (P := P) w t ty e i hu hi b n cap (vs ++ rest).toArray hh ⟨b0, o0, none⟩ mx cx news (by rw [hl, hsz']) hnews' h1 hroom (by
          rw [hsz', ← hvl]; simp
          have : (n + mx) * (T e).size ≤ cap * (T e).size := Nat.mul_le_mul_right _ hroom
          rw [Nat.add_mul, ← hvl, ← hl, ← hcl] at this
          simpa using this)
        refine ⟨_, _, some b, hr, ⟨.inr ⟨b, n + mx, cap, rest.drop news.length, rfl, rfl, ?_, ?_, hroom, hcm, ?_⟩, fun k hk hne => ?_, by simp, rfl, rfl, ⟨rfl, fun _ => by first | exact Nat.le_refl _ | exact Nat.le_succ _⟩, fun b' h => .inl h⟩⟩
        · rw [setRow_heap w b _ _ e _ hh]
          congr 2
          rw [hsz', ← hvl]
          simp [List.take_left', List.drop_append]
        · rw [List.length_append, hvl, hl, ← Nat.add_mul]
        · have : (n + mx) * (T e).size ≤ cap * (T e).size := Nat.mul_le_mul_right _ hroom
          rw [Nat.add_mul, ← hvl, ← hl] at this
          simp at hcl ⊢; omega
        · exact setRow_other w b k _ (fun e => hne (by rw [e]))
      · have hold : ∀ j u, vs[j]? = some u → w.cell? ((⟨b, 0, none⟩ : Addr).add j) = some u := fun j u hj => by
          obtain ⟨hlt, rfl⟩ := List.getElem?_eq_some_iff.1 hj
          rw [add_addr, Nat.zero_add, cell_of_list hh (by simp; omega)]
          simp [List.getElem_append_left hlt]
        have hr := run_append_grow (P := P) w t ty e i z hu hi hz ⟨b, 0, none⟩ n cap vs (by rw [hvl, hsz']) hold ⟨b0, o0, none⟩ mx cx news (by rw [hl, hsz']) hnews' (by omega) (by omega) (growslice_fits (by omega) (by
          rw [hby]
          have : (n + mx) * (T e).bytes ≤ (vs.length + news.length) * (T e).bytes := Nat.mul_le_mul_right _ (by omega)
          omega))
        refine ⟨_, _, some w.heap.size, hr, ⟨.inr ⟨w.heap.size, n + mx, _, (Builtin.zeroCells z.cells (grownCap w (n + mx) cap e - (n + mx))).toList, rfl, rfl, ?_, ?_, grownCap_ge w _ _ e, grownCap_le_maxLen w _ _ e (by simp [maxLen]; omega), ?_⟩, fun b hb _ => ?_, by simp, rfl, rfl, ⟨rfl, fun _ => by first | exact Nat.le_refl _ | exact Nat.le_succ _⟩, fun b h => .inr (by simp at h; omega)⟩⟩
        · have := heap_alloc_new w.drew (.cells (vs.toArray ++ news.toArray ++ Builtin.zeroCells z.cells (grownCap w (n + mx) cap e - (n + mx))) e)
          rw [show (vs ++ news ++ (Builtin.zeroCells z.cells (grownCap w (n + mx) cap e - (n + mx))).toList).toArray = vs.toArray ++ news.toArray ++ Builtin.zeroCells z.cells (grownCap w (n + mx) cap e - (n + mx)) from Array.toList_inj.1 (by simp)]
          exact this
        · rw [List.length_append, hvl, hl, ← Nat.add_mul]
        · have hge := grownCap_ge w (n + mx) cap e
          simp only [List.length_append, Array.length_toList, size_zeroCells, hzs, hvl, hl, ← Nat.add_mul]
          congr 1; omega
        · exact (Ext.alloc w.drew _).block b hb
end
end Go.Abs

/- DERIVED by an AI agent. One row turns, others are written no more: the step behind store, append, a slice literal. No program in sight. -/
namespace Go.Abs
set_option linter.unusedSimpArgs false

def frz (r : Row) : Row := match r.kind with | .sli e sz _ c => ⟨r.ver, .sli e sz true c⟩ | _ => r
def frzF (R : Nat → Row) (ks : List Nat) : Nat → Row := fun k => if k ∈ ks then frz (R k) else R k
def St.freeze (s : St) (ks : List Nat) : St := { s with rw := frzF s.rw ks }

theorem frz_ver (r : Row) : (frz r).ver = r.ver := by unfold frz; split <;> rfl
theorem frz_nd (r : Row) : (frz r).kind.nd = r.kind.nd := by unfold frz; split <;> simp_all [RK.nd]
theorem frz_slice (r : Row) : (frz r).kind.slice = r.kind.slice := by unfold frz; split <;> simp_all [RK.slice]
theorem frz_live (r : Row) (h : (frz r).kind.live = true) : r.kind.live = true := by
  unfold frz at h; split at h <;> simp_all [RK.live]
theorem frzF_ver [Held] (R : Nat → Row) (ks : List Nat) (k : Nat) : (frzF R ks k).ver = (R k).ver := by unfold frzF; split <;> simp [frz_ver]
theorem frzF_nil (R : Nat → Row) : frzF R [] = R := by funext k; simp [frzF]
theorem St.freeze_nil [Held] (s : St) : s.freeze [] = s := by simp [St.freeze, frzF_nil]

/-- Rows written no more, and one row anew. -/
def Env.turn (E : Env) (fz : List Nat) (k : Nat) (r : Row) (m : Option Nat) (v : Value) : Env :=
  { R := updF (frzF E.R fz) k r, rm := updF E.rm k m, rv := updF E.rv k v, L := mkL E.X (updF (frzF E.R fz) k r) (updF E.rm k m), B := E.B, X := E.X }

structure OneTurn [Held] (E : Env) (w w' : World) (k : Nat) (r : Row) (m : Option Nat) (v : Value) : Prop where
  blocks : ∀ b, b < w.heap.size → (E.rm k = some b → (E.R k).kind.live = false) → w'.heap[b]? = w.heap[b]?
  fresh : ∀ b, m = some b → r.kind.nd = true → w.heap.size ≤ b ∨ (E.rm k = some b ∧ (E.R k).kind.nd = true ∧ (r.kind.live = true → (E.R k).kind.live = true))
  ver : (E.R k).ver ≤ r.ver
  same1 : r.ver = (E.R k).ver → r.kind.slice = true → (E.R k).kind.slice = true ∧ v = E.rv k
  same2 : r.ver = (E.R k).ver → r.kind.nd = true → (E.R k).kind.nd = true ∧ m = E.rm k
  pos : r.kind.nd = true → 0 < r.ver
  size : w.heap.size ≤ w'.heap.size
  os : w'.os = w.os
  tape : w'.tape = w.tape
  output : OutLe w w'

section
variable {G : Ghost} {E : Env} {w w' : World} {k : Nat} {r : Row} {m : Option Nat} {v : Value} {fz : List Nat}

theorem turn_R [Held] (j : Nat) (h : j ≠ k) : (E.turn fz k r m v).R j = if j ∈ fz then frz (E.R j) else E.R j := by simp [Env.turn, updF_other _ _ h, frzF]

theorem OneTurn.turn [Held] (hw : WOk G E w) (h : OneTurn E w w' k r m v) : Turn G E (E.turn fz k r m v) w w' (fun j => j = k ∨ j ∈ fz) where
  L := rfl
  B := rfl
  X := rfl
  keep j hj := by
    have h1 : j ≠ k := fun e => hj (.inl e)
    have h2 : j ∉ fz := fun e => hj (.inr e)
    refine ⟨by rw [turn_R j h1, if_neg h2], by simp [Env.turn, updF_other _ _ h1], by simp [Env.turn, updF_other _ _ h1]⟩
  blocks b hb hD := h.blocks b hb fun hk => hD k (.inl rfl) hk
  fresh j b hD hb hn := by
    by_cases hj : j = k
    · subst hj
      simp only [Env.turn, updF_same] at hb hn ⊢
      exact h.fresh b hb hn
    · rw [turn_R j hj] at hn ⊢
      simp only [Env.turn, updF_other _ _ hj] at hb
      have hf : j ∈ fz := hD.resolve_left hj
      rw [if_pos hf, frz_nd] at hn
      rw [if_pos hf]
      exact .inr ⟨hb, hn, frz_live _⟩
  ver j hD := by
    by_cases hj : j = k
    · subst hj; simp only [Env.turn, updF_same]; exact h.ver
    · rw [turn_R j hj]; split <;> simp [frz_ver]
  same1 j hD he hs := by
    by_cases hj : j = k
    · subst hj
      simp only [Env.turn, updF_same] at he hs ⊢
      exact h.same1 he hs
    · rw [turn_R j hj] at hs
      simp only [Env.turn, updF_other _ _ hj]
      split at hs
      · rw [frz_slice] at hs; exact ⟨hs, trivial⟩
      · exact ⟨hs, trivial⟩
  same2 j hD he hs := by
    by_cases hj : j = k
    · subst hj
      simp only [Env.turn, updF_same] at he hs ⊢
      exact h.same2 he hs
    · rw [turn_R j hj] at hs
      simp only [Env.turn, updF_other _ _ hj]
      split at hs
      · rw [frz_nd] at hs; exact ⟨hs, trivial⟩
      · exact ⟨hs, trivial⟩
  pos j hD hn := by
    by_cases hj : j = k
    · subst hj; simp only [Env.turn, updF_same] at hn ⊢; exact h.pos hn
    · rw [turn_R j hj] at hn ⊢
      split at hn
      · rename_i hf; rw [frz_nd] at hn; rw [if_pos hf, frz_ver]; exact hw.pos j hn
      · rename_i hf; rw [if_neg hf]; exact hw.pos j hn
  inj j j' b hD hD' hn hn' hb hb' := by
    by_cases hj : j = k
    · by_cases hj' : j' = k
      · rw [hj, hj']
      · subst hj
        rw [turn_R j' hj'] at hn'
        simp only [Env.turn, updF_same] at hb hn
        simp only [Env.turn, updF_other _ _ hj'] at hb'
        rw [if_pos (hD'.resolve_left hj'), frz_nd] at hn'
        rcases h.fresh b hb hn with hf | ⟨h1, h2, _⟩
        · have := (hw.block hb' hn').1; omega
        · exact hw.inj _ _ b h2 hn' h1 hb'
    · rw [turn_R j hj, if_pos (hD.resolve_left hj), frz_nd] at hn
      simp only [Env.turn, updF_other _ _ hj] at hb
      by_cases hj' : j' = k
      · subst hj'
        simp only [Env.turn, updF_same] at hb' hn'
        rcases h.fresh b hb' hn' with hf | ⟨h1, h2, _⟩
        · have := (hw.block hb hn).1; omega
        · exact hw.inj _ _ b hn h2 hb h1
      · rw [turn_R j' hj', if_pos (hD'.resolve_left hj'), frz_nd] at hn'
        simp only [Env.turn, updF_other _ _ hj'] at hb'
        exact hw.inj _ _ b hn hn' hb hb'
  size := h.size
  os := h.os
  tape := h.tape
  output := h.output

/-- The rows that are written no more stand; the one that turned is given. -/
theorem OneTurn.rows [Held] (hw : WOk G E w) (h : OneTurn E w w' k r m v) (hlent : ∀ j ∈ fz, j ≠ k) (hrow : Lasts w w' E (E.turn fz k r m v) → RowOk w' (E.turn fz k r m v) G.C k) :
    ∀ j, (j = k ∨ j ∈ fz) → RowOk w' (E.turn fz k r m v) G.C j := by
  have hl := (h.turn (fz := fz) hw).lasts hw
  intro j hD
  by_cases hj : j = k
  · subst hj; exact hrow hl
  · have hf : j ∈ fz := hD.resolve_left hj
    have hr := hw.rows j
    have hblk : ∀ b, E.rm j = some b → (E.R j).kind.nd = true → w'.heap[b]? = w.heap[b]? := fun b hb hn => by
      refine h.blocks b (hw.block hb hn).1 fun hkb => ?_
      cases hlv : (E.R k).kind.live with
      | false => rfl
      | true => exact absurd (hw.inj j k b hn (RK.nd_of_live hlv) hb hkb) hj
    unfold RowOk at hr ⊢
    rw [turn_R j hj, if_pos hf]
    have e1 : (E.turn fz k r m v).rm j = E.rm j := by simp [Env.turn, updF_other _ _ hj]
    have e2 : (E.turn fz k r m v).rv j = E.rv j := by simp [Env.turn, updF_other _ _ hj]
    rw [e1, e2]
    cases hk : (E.R j).kind with
    | dead => simp [frz, hk]
    | nil => simp only [hk, frz] at hr ⊢; exact hr
    | box t cells =>
      simp only [hk, frz] at hr ⊢
      obtain ⟨b, vs, h1, h2, h3, h4⟩ := hr
      exact ⟨b, vs, h1, h2, (hblk b h1 (by rw [hk]; rfl)).trans h3, h4.mono hl (Nat.le_refl _)⟩
    | sli e sz fz' cells =>
      simp only [hk, frz] at hr ⊢
      rcases hr with hr | ⟨b, n, cap, vs, rest, h1, h2, h3, h4, h5, h6, h7, h8, h9⟩
      · exact .inl hr
      · exact .inr ⟨b, n, cap, vs, rest, h1, h2, h3, (hblk b h1 (by rw [hk]; rfl)).trans h4, h5, h6, h7, h8, h9.mono hl.bare (Nat.le_refl _)⟩
    | tab e cells =>
      simp only [hk, frz] at hr ⊢
      rcases hr with hr | ⟨b, n, cap, vs, rest, h1, h2, h3, h4, h5, h6, h7, h8, h9⟩
      · exact .inl hr
      · exact .inr ⟨b, n, cap, vs, rest, h1, h2, h3, (hblk b h1 (by rw [hk]; rfl)).trans h4, h5, h6, h7, h8, h9.mono hl (Nat.le_refl _)⟩

end

def isV : PV → Bool | .v x => x.oneCell' | _ => false

/-- A value as cells of a slice of the call's own; the rows that are written no more. -/
def pureK (rw : Nat → Row) (p : PV) (K : List PV → List Nat → Prop) : Prop :=
  match p with
  | .v x => x.oneCell' = true ∧ K [.v x] []
  | .sl fr sz c => fr = true ∧ K [.sl false sz c] []
  | .own k ver => (rw k).ver = ver ∧ k < lent ∧ (match (rw k).kind with | .nil => K [.sl false 1 []] [] | .sli _ sz _ c => K [.sl false sz c] [k] | _ => False)
  | .ag c => (∀ x ∈ c, isV x = true) ∧ K c []
  | _ => False

theorem isV_rep [Held] {w w' : World} {E E' : Env} {lo lo' : Nat} {p : PV} {x : Value} (h : isV p = true) (hp : Rep w E lo p x) : Rep w' E' lo' p x ∧ x.oneCell' = true := by
  cases p <;> simp [isV] at h
  have := hp.v_eq; subst this
  exact ⟨.v _, h⟩

/-- What 'pureK' gives, whatever turns beside it, as long as those rows are written no more and their blocks stand. -/
theorem pureK_sound [Held] {G : Ghost} {rw : Nat → Row} {p : PV} {x : Value} {w : World} {E : Env} {K : List PV → List Nat → Prop} (hk : pureK rw p K) (hR : E.R = rw) (hw : WOk G E w) (hp : Rep w E 0 p x) :
    ∃ c f, K c f ∧ c.length = x.cells.size ∧ (∀ y ∈ x.cells.toList, y.oneCell' = true) ∧ (∀ j ∈ f, j < lent ∧ ∃ e sz fz cc, (E.R j).kind = .sli e sz fz cc) ∧
      ∀ (w' : World) (E' : Env), Lasts w w' E E' → E'.B = E.B → (∀ j ∈ f, ∀ b, E.rm j = some b → w'.heap[b]? = w.heap[b]? ∧ ¬ E'.L b) → RepL w' E'.bare E'.B c x.cells.toList := by
  subst hR
  cases hp with
  | v =>
    refine ⟨_, _, hk.2, by rw [cells_of_one hk.1]; rfl, fun y hy => ?_, by simp, fun w' E' _ _ _ => ?_⟩
    · rw [cells_of_one hk.1] at hy; simp at hy; subst hy; exact hk.1
    · rw [cells_of_one hk.1]; exact ⟨rfl, fun i a b => by simp at a; subst a; exact .v _⟩
  | @sl _ _ fr sz len cap cells a cs hl hc hm hr hh =>
    obtain ⟨rfl, hk⟩ := hk
    refine ⟨_, _, hk, rfl, fun y hy => by simp [Value.cells] at hy; subst hy; rfl, by simp, fun w' E' hla hB _ => ⟨rfl, fun i a b => ?_⟩⟩
    simp at a; subst a
    have e1 : E.lo 0 true = E.B := by simp [Env.lo]
    have e2 : E'.bare.lo E'.B false = E'.B := by simp [Env.lo, Env.bare]
    refine Rep.sl cs hl hc hm (fun i hi => ?_) (fun i hi => ?_)
    · obtain ⟨b', o, ha, hb', hL, hcell⟩ := hr i hi
      obtain ⟨h1, h2⟩ := hla.cells b' (lt_of_cell hcell) hL
      exact ⟨b', o, ha, by rw [e2, hB, ← e1]; exact hb', h2, (cell_of_block h1).trans hcell⟩
    · rw [e2]
      exact (hh i hi).mono hla.bare (by rw [e1, hB]; exact Nat.le_refl _)
  | @own _ _ k ver _ hv hx =>
    obtain ⟨h1, h2, hk⟩ := hk
    have hrow := hw.rows k
    unfold RowOk at hrow
    cases hkd : (E.R k).kind with
    | dead => simp only [hkd] at hk
    | box t c => simp only [hkd] at hk
    | tab e c => simp only [hkd] at hk
    | nil =>
      simp only [hkd] at hk hrow
      rw [hx h1 (by rw [hkd]; rfl), hrow.2]
      exact ⟨_, _, hk, rfl, fun y hy => by simp [Value.cells] at hy; subst hy; rfl, by simp, fun w' E' _ _ _ => ⟨rfl, fun i a b => by simp at a; subst a; exact rep_nil _ _ _ _ _⟩⟩
    | sli e sz fz c =>
      simp only [hkd] at hk hrow
      have hxe := hx h1 (by rw [hkd]; rfl)
      rcases hrow with ⟨g1, g2, g3⟩ | ⟨b, n, cap, vs, rest, g1, g2, g3, g4, g5, g6, g7, g8, g9⟩
      · rw [hxe, g2]
        subst g3
        exact ⟨_, _, hk, rfl, fun y hy => by simp [Value.cells] at hy; subst hy; rfl, fun j hj => by simp at hj; subst hj; exact ⟨h2, _, _, _, _, hkd⟩,
          fun w' E' _ _ _ => ⟨rfl, fun i a b => by simp at a; subst a; exact rep_nil _ _ _ _ _⟩⟩
      · rw [hxe, g3]
        refine ⟨_, _, hk, rfl, fun y hy => by simp [Value.cells] at hy; subst hy; rfl, fun j hj => by simp at hj; subst hj; exact ⟨h2, _, _, _, _, hkd⟩, fun w' E' hla hB hf => ⟨rfl, fun i a b' => ?_⟩⟩
        simp at a; subst a
        obtain ⟨q1, q2⟩ := hf k (by simp) b g1
        have hB' : E.B ≤ b := by
          rw [hw.base]
          rcases g2 with g2 | g2
          · exact g2
          · exact absurd g2.1 (by omega)
        have e2 : E'.bare.lo E'.B false = E'.B := by simp [Env.lo, Env.bare]
        refine Rep.sl (fun i => vs.getD i undef) (g9.1.trans g5) g6 g7 (fun i hi => ⟨b, 0, rfl, by rw [e2, hB]; exact hB', q2, ?_⟩) (fun i hi => ?_)
        · have hi' : i < vs.length := by rw [← g9.1]; exact hi
          rw [Nat.zero_add, cell_of_list (q1.trans g4) (by simp; omega)]
          simp [List.getElem_append_left hi', List.getD, hi']
        · have hi' : i < vs.length := by rw [← g9.1]; exact hi
          have e : vs.getD i undef = vs[i] := by simp [List.getD, hi']
          rw [e, e2]
          exact (g9.2 i hi hi').mono hla.bare (by rw [hB]; exact Nat.le_refl _)
  | @ag _ _ c vs hl hh =>
    refine ⟨_, _, hk.2, by simpa [Value.cells] using hl, fun y hy => ?_, by simp, fun w' E' _ _ _ => ⟨hl, fun i a b => ?_⟩⟩
    · obtain ⟨i, hi, rfl⟩ := List.getElem_of_mem hy
      have hi' : i < c.length := by rw [hl]; exact hi
      exact (isV_rep (w' := w) (E' := E) (lo' := 0) (hk.1 _ (List.getElem_mem hi')) (hh i hi' hi)).2
    · exact (isV_rep (hk.1 _ (List.getElem_mem a)) (hh i a b)).1
  | ref => exact hk.elim
  | eref => exact hk.elim
  | tup => exact hk.elim
  | clo => exact hk.elim
  | junk => exact hk.elim

end Go.Abs
