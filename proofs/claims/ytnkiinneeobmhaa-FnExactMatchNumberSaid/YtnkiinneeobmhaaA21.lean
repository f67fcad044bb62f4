/- DERIVED by an AI agent. A region that draws its order: every order comes to what the text's order comes to. No program in sight. -/
import Derived.Test.YtnkiinneeobmhaaA20
namespace Go.Abs
set_option linter.unusedSimpArgs false

/-- Operations that turn rows. -/
def isW (o : Oper) : Bool :=
  match o.op with
  | .store _ _ _ => true
  | .alloc _ => true
  | .box _ _ => true
  | .makeSlice _ _ _ => true
  | .buildSlice _ _ _ => true
  | .call c => (match c.callee with | .builtin .append => true | _ => false)
  | _ => false

/-- Operations that do not look at rows. -/
def rowFree (o : Oper) : Bool :=
  match o.op with
  | .move _ => true
  | .assign _ => true
  | .pick _ _ _ => true
  | .binOp _ _ _ _ _ => true
  | .unOp _ _ _ => true
  | .extract _ _ => true
  | .makeFunc _ _ _ => true
  | .field _ _ _ => true
  | .index _ _ _ => true
  | _ => false

def gVal (ops : Array Oper) (s : St) (o : Oper) : Option Bool :=
  match o.guard with
  | none => some true
  | some (j, want) => match (ops[j]?).bind (·.dst) with | some d => (match s.sl d with | .v (.bool b) => some (b == want) | .v (.tuple _) => some false | _ => none) | none => none

def names (ops : Array Oper) (o : Oper) : List Nat :=
  o.dst.toList ++ (o.op.operands.toList.filterMap fun | .tmp t => some t | _ => none) ++ (match o.guard with | some (j, _) => ((ops[j]?).bind (·.dst)).toList | none => [])

abbrev RowsF := Nat → Row
def St.step (s : St) (o : Oper) (x : PV × RowsF) : St := (St.mk s.sl x.2).put o.dst x.1

structure Local (ops : Array Oper) (o : Oper) (s s' : St) : Prop where
  ev : ∀ x ∈ o.op.operands, s'.ev x = s.ev x

inductive StepOk (P : Program) (G : Ghost) (ops : Array Oper) (s : St) (o : Oper) (x : PV × RowsF) : Prop
  | skip (hg : gVal ops s o = some false) (hp : x.1 = .v undef) (hr : x.2 = s.rw) : StepOk P G ops s o x
  | quiet (hg : gVal ops s o = some true) (hr : x.2 = s.rw) (hw : isW o = false) (hy : ∀ rw, (rowFree o = true ∨ rw = s.rw) → Yields P G ⟨s.sl, rw⟩ o x.1) : StepOk P G ops s o x
  | write (hg : gVal ops s o = some true) (hw : isW o = true) (he : ∀ s', s'.rw = s.rw → (∀ y ∈ o.op.operands, s'.ev y = s.ev y) → Effects P G s' o (s'.step o x)) : StepOk P G ops s o x

inductive Tr (P : Program) (G : Ghost) (ops : Array Oper) : List Oper → St → List (PV × RowsF) → St → Prop
  | nil (s : St) : Tr P G ops [] s [] s
  | cons {o : Oper} {os : List Oper} {s s' : St} {x : PV × RowsF} {l : List (PV × RowsF)} (h : StepOk P G ops s o x) (t : Tr P G ops os (s.step o x) l s') : Tr P G ops (o :: os) s (x :: l) s'

def stAt : List Oper → List (PV × RowsF) → St → Nat → St
  | o :: os, x :: l, s, i + 1 => stAt os l (s.step o x) i
  | _, _, s, _ => s

section
variable {P : Program} {T : Tab} {G : Ghost} {ops : Array Oper}

theorem stAt_zero (l : List Oper) (tr : List (PV × RowsF)) (s : St) : stAt l tr s 0 = s := by cases l <;> cases tr <;> rfl

theorem Tr.length {l : List Oper} {s s' : St} {tr : List (PV × RowsF)} (h : Tr P G ops l s tr s') : tr.length = l.length := by
  induction h with
  | nil => rfl
  | cons _ _ ih => simp [ih]

theorem Tr.last {l : List Oper} {s s' : St} {tr : List (PV × RowsF)} (h : Tr P G ops l s tr s') : stAt l tr s l.length = s' := by
  induction h with
  | nil => rfl
  | cons _ _ ih => exact ih

theorem Tr.at {l : List Oper} {s s' : St} {tr : List (PV × RowsF)} (h : Tr P G ops l s tr s') : ∀ i (a : i < l.length) (b : i < tr.length), StepOk P G ops (stAt l tr s i) l[i] tr[i] ∧ stAt l tr s (i + 1) = (stAt l tr s i).step l[i] tr[i] := by
  induction h with
  | nil => intro i a; simp at a
  | cons h _ ih =>
    intro i a b
    cases i with
    | zero =>
      refine ⟨by rw [stAt_zero]; exact h, ?_⟩
      rw [stAt_zero]
      exact stAt_zero _ _ _
    | succ i => exact ih i (by simpa using a) (by simpa using b)

def lastIdx : Nat → (Nat → Bool) → Option Nat
  | 0, _ => none
  | n + 1, p => if p n = true then some n else lastIdx n p

theorem lastIdx_congr : ∀ (n : Nat) (p q : Nat → Bool), (∀ k, k < n → p k = q k) → lastIdx n p = lastIdx n q := by
  intro n
  induction n with
  | zero => intro p q _; rfl
  | succ n ih => intro p q h; simp only [lastIdx]; rw [h n (by omega), ih p q fun k hk => h k (by omega)]

theorem lastIdx_cut : ∀ (n i : Nat) (p q : Nat → Bool), i ≤ n → (∀ k, k < i → p k = q k) → (∀ k, i ≤ k → k < n → p k = false) → lastIdx n p = lastIdx i q := by
  intro n
  induction n with
  | zero => intro i p q h _ _; obtain rfl : i = 0 := by omega
            rfl
  | succ n ih =>
    intro i p q h h1 h2
    by_cases hi : i = n + 1
    · subst hi; exact lastIdx_congr _ _ _ h1
    · simp only [lastIdx]
      rw [h2 n (by omega) (by omega)]
      exact ih i p q (by omega) h1 fun k a b => h2 k a (by omega)

theorem lastIdx_some : ∀ (n i : Nat) (p : Nat → Bool), i < n → p i = true → (∀ k, i < k → k < n → p k = false) → lastIdx n p = some i := by
  intro n
  induction n with
  | zero => intro i p h; omega
  | succ n ih =>
    intro i p h h1 h2
    by_cases hi : i = n
    · subst hi; simp [lastIdx, h1]
    · simp only [lastIdx]
      rw [h2 n (by omega) (by omega)]
      exact ih i p (by omega) h1 fun k a b => h2 k a (by omega)

/-- A slot by what has been done of the trace. -/
def slotD (l : List Oper) (tr : List (PV × RowsF)) (s : St) (D : Nat → Bool) (t : Nat) : PV :=
  match lastIdx l.length (fun k => D k && ((l[k]?).bind (·.dst) == some t)) with
  | some k => (tr[k]?.map (·.1)).getD .junk
  | none => s.sl t
def rowsD (l : List Oper) (tr : List (PV × RowsF)) (s : St) (D : Nat → Bool) : RowsF :=
  match lastIdx l.length (fun k => D k && (l[k]?.map isW).getD false) with
  | some k => (tr[k]?.map (·.2)).getD s.rw
  | none => s.rw

theorem step_sl (s : St) (o : Oper) (x : PV × RowsF) (t : Nat) : (s.step o x).sl t = if o.dst = some t then x.1 else s.sl t := by
  unfold St.step St.put
  cases h : o.dst with
  | none => simp
  | some d =>
    simp only [Option.some.injEq]
    by_cases e : t = d
    · subst e; simp
    · rw [if_neg e, if_neg (fun h => e h.symm)]
theorem step_rw (s : St) (o : Oper) (x : PV × RowsF) : (s.step o x).rw = x.2 := by unfold St.step St.put; cases o.dst <;> rfl

theorem Tr.slots {l : List Oper} {s s' : St} {tr : List (PV × RowsF)} (h : Tr P G ops l s tr s') (t : Nat) : ∀ i, i ≤ l.length →
    (stAt l tr s i).sl t = match lastIdx i (fun k => (l[k]?).bind (·.dst) == some t) with | some k => (tr[k]?.map (·.1)).getD .junk | none => s.sl t := by
  intro i
  induction i with
  | zero => intro _; rw [stAt_zero]; rfl
  | succ i ih =>
    intro hi
    have hl : i < tr.length := by rw [h.length]; omega
    rw [(h.at i (by omega) hl).2, step_sl]
    simp only [lastIdx]
    have e : l[i]? = some l[i] := List.getElem?_eq_getElem (by omega)
    by_cases hd : l[i].dst = some t
    · rw [if_pos hd, if_pos (by simp [e, hd])]
      simp [List.getElem?_eq_getElem hl]
    · rw [if_neg hd, if_neg (by simp [e, hd])]
      exact ih (by omega)

theorem Tr.rows {l : List Oper} {s s' : St} {tr : List (PV × RowsF)} (h : Tr P G ops l s tr s') : ∀ i, i ≤ l.length →
    (stAt l tr s i).rw = match lastIdx i (fun k => (l[k]?.map isW).getD false) with | some k => (tr[k]?.map (·.2)).getD s.rw | none => s.rw := by
  intro i
  induction i with
  | zero => intro _; rw [stAt_zero]; rfl
  | succ i ih =>
    intro hi
    have hl : i < tr.length := by rw [h.length]; omega
    obtain ⟨hok, hst⟩ := h.at i (by omega) hl
    rw [hst, step_rw]
    simp only [lastIdx]
    have e : l[i]? = some l[i] := List.getElem?_eq_getElem (by omega)
    by_cases hd : isW l[i] = true
    · rw [if_pos (by simp [e, hd])]
      simp [List.getElem?_eq_getElem hl]
    · rw [if_neg (by simp [e, hd]), ← ih (by omega)]
      cases hok with
      | skip _ _ hr => exact hr
      | quiet _ hr _ _ => exact hr
      | write _ hw _ => exact absurd hw hd
end
end Go.Abs
