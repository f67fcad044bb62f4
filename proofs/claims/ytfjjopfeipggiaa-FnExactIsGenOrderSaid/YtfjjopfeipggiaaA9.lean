/- DERIVED by an AI agent. Calls: a contract at its call, the result only read, or its rows taken over. No program in sight. -/
import Derived.Test.YtfjjopfeipggiaaA8
namespace Go.Abs
set_option linter.unusedSimpArgs false

/-- How deep an argument is looked into. -/
def deep : Nat := 3

/-- A call: the contract, its result. -/
def callK (P : Program) (rw : Nat → Row) (ev : Operand → PV) (f : Operand) (args : Array Operand) (K : RV → Prop) : Prop :=
  match ev f with
  | .clo g caps => ∃ rv, AC P g ((args.toList.map fun x => lend rw deep (ev x)) ++ caps.map (lend rw deep)) rv ∧ K rv
  | _ => False

section
variable {P : Program} {T : Tab} {G : Ghost} {s : St}

theorem RepL.append {w : World} {E : Env} {lo : Nat} {p q : List PV} {x y : List Value} (h : RepL w E lo p x) (k : RepL w E lo q y) : RepL w E lo (p ++ q) (x ++ y) := by
  refine ⟨by simp [h.1, k.1], fun i a b => ?_⟩
  by_cases hi : i < p.length
  · rw [List.getElem_append_left hi, List.getElem_append_left (by rw [← h.1]; exact hi)]
    exact h.2 i _ _
  · rw [List.getElem_append_right (by omega), List.getElem_append_right (by rw [← h.1]; omega)]
    have e : i - x.length = i - p.length := by rw [h.1]
    have := k.2 (i - p.length) (by simp at a; omega) (by have h0 := h.1; have h1 := k.1; simp at a; omega)
    simpa [e] using this

theorem RepL.map {w : World} {E : Env} {lo : Nat} {α : Type} {l : List α} {f : α → PV} {g : α → Value} (h : ∀ x ∈ l, Rep w E lo (f x) (g x)) : RepL w E lo (l.map f) (l.map g) :=
  ⟨by simp, fun i a b => by simp only [List.getElem_map]; exact h _ (List.getElem_mem _)⟩

theorem OutR.low {w : World} {E : Env} {rv : RV} {v : Value} {lv : List (Value × Option Nat)} (h : OutR w E rv v lv) : ∀ b ∈ blk lv, E.B ≤ b ∧ b < w.heap.size := by
  have flat : ∀ {bss : List (List (Value × Option Nat))} {b : Nat}, b ∈ blk bss.flatten → ∃ i, ∃ h : i < bss.length, b ∈ blk bss[i] := by
    intro bss b hb
    simp only [blk, List.mem_filterMap] at hb ⊢
    obtain ⟨x, hx, he⟩ := hb
    obtain ⟨l, hl, hx⟩ := List.mem_flatten.1 hx
    obtain ⟨i, hi, rfl⟩ := List.getElem_of_mem hl
    exact ⟨i, hi, x, hx, he⟩
  induction h with
  | im h => intro b hb; simp [blk] at hb
  | nil => intro b hb; simp [blk] at hb
  | fr hB hh => intro b hb; obtain rfl : b = _ := by simpa [blk] using hb
                exact ⟨hB, get_lt hh⟩
  | ag e1 e2 hh ih =>
    intro b hb
    obtain ⟨i, hi, hb⟩ := flat hb
    exact ih i (by omega) (by omega) hi b hb
  | tup e1 e2 hh ih =>
    intro b hb
    obtain ⟨i, hi, hb⟩ := flat hb
    exact ih i (by omega) (by omega) hi b hb

/-- The call's run: into the function, with the arguments and what is captured. -/
theorem run_call {o : Oper} {c : Call} {f : Operand} (ho : o.op = .call c) (hc : c.callee = .value f) {a : Act} {w : World} {g : FuncId} {vs : List Value} (hf : a.eval f = .func (.func g) #[] vs.toArray)
    (he : Enters P g) : (execOp a.eval o).run P w = .ok (.enter g ((c.args.toList.map a.eval) ++ vs).toArray) w := by
  obtain ⟨fn, h1, h2, h3⟩ := he
  have hn : ¬ fn.name = "runtime.NumGoroutine" := by simpa using h2
  have hb : fn.body.isNone = false := h3
  have hb' : ¬ fn.body = none := by intro h; rw [h] at hb; cases hb
  have e : (c.args.map a.eval) ++ vs.toArray = ((c.args.toList.map a.eval) ++ vs).toArray := by
    apply Array.toList_inj.1; simp
  simp [execOp, ho, resolve, hc, hf, Deferred.ofValue, invoke, callFunc, h1, hn, hb']

theorem call_wp {o : Oper} {c : Call} {f : Operand} {Kr : RV → Prop} (ho : o.op = .call c) (hc : c.callee = .value f) (hk : callK P s.rw s.ev f c.args Kr) :
    ∃ rv, Kr rv ∧ ∀ (E : Env) (a : Act) (w : World), E.R = s.rw → WOk G E w → (∀ x ∈ o.op.operands, Rep w E 0 (s.ev x) (a.eval x)) →
      ∀ (K : Act → World → Prop) (Q : Exit → Act → World → Prop), (∀ v w' lv, Ext w w' → OutR w' (Env.out w.heap.size (blk lv)) rv v lv → (blk lv).Nodup → K (a.put o.dst v) w') → o.wp P a w K Q := by
  unfold callK at hk
  split at hk
  · rename_i g caps hev
    obtain ⟨rv, hac, hk⟩ := hk
    refine ⟨rv, hk, fun E a w hR hw hx K Q hK => ?_⟩
    have hfx := hx f (by simp [ho, Op.operands, Call.operands, hc])
    rw [hev] at hfx
    generalize hvf : a.eval f = vf at hfx
    cases hfx with
    | @clo _ _ _ _ vs hl hh =>
      have hargs : RepL w (Env.inn w.heap.size) 0 ((c.args.toList.map fun x => lend s.rw deep (s.ev x)) ++ caps.map (lend s.rw deep)) (c.args.toList.map a.eval ++ vs) := by
        refine RepL.append (RepL.map fun x hx' => ?_) ⟨by simp [hl], fun i p q => ?_⟩
        · rw [← hR]; exact lend_sound hw _ _ (hx x (by simp [ho, Op.operands, Call.operands, hc]; exact .inr (by simpa using hx')))
        · simp only [List.getElem_map]
          have := lend_sound hw w.heap.size deep (hh i (by simpa using p) q)
          rwa [hR] at this
      have hcall := hac.2 w _ hargs
      unfold Oper.wp
      rw [run_call ho hc hvf hac.1]
      show Calls P g _ w _
      refine hcall.mono fun e w' ⟨v, bs, he, hext, hout, hnd⟩ => ?_
      subst he
      exact hK v w' bs hext hout hnd
  · exact hk.elim

/-- A call whose result is only read. -/
def quietK (P : Program) (T : Tab) (rw : Nat → Row) (ev : Operand → PV) (op : Op) (K : PV → Prop) : Prop :=
  match op with
  | .call c => (match c.callee with | .value f => callK P rw ev f c.args (fun rv => K rv.imm) | _ => valK T rw ev op K)
  | _ => valK T rw ev op K

theorem quiet_sound (hT : T.Ok P) {K : PV → Prop} {o : Oper} (hk : quietK P T s.rw s.ev o.op K) : ∃ p, K p ∧ Yields P G s o p := by
  unfold quietK at hk
  split at hk
  · rename_i c ho
    split at hk
    · rename_i f hc
      obtain ⟨rv, hk, h⟩ := call_wp (G := G) ho hc hk
      refine ⟨_, hk, fun E a w hR hw hx K' Q hK => h E a w hR hw hx K' Q fun v w' bs hext hout hnd => hK v w' hext ?_⟩
      refine hout.rep (fun b hb hE => hb (.inl (hw.low hE))) (fun b hb hE => ?_) ?_
      · have h1 := hw.low hE
        have h2 := (hout.low b hb).1
        exact absurd h1 (by simpa [Env.out] using h2)
      · show E.B ≤ w.heap.size
        rw [hw.base]; exact hw.kept.size
    · exact val_sound hT hk
  · exact val_sound hT hk

end
end Go.Abs
