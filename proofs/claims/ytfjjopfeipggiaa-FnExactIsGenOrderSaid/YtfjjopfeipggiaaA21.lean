/- DERIVED by an AI agent. A region that draws its order: every order comes to what the text's order comes to. No program in sight. -/
import Derived.Test.YtfjjopfeipggiaaA20
namespace Go.Abs
set_option linter.unusedSimpArgs false

/-- Rows that an operation turns: those of a list, those of a call's result. -/
inductive Tc where
  | ids (l : List Nat)
  | res (d : Nat)
def Tc.has : Tc → Nat → Bool
  | .ids l, k => l.contains k
  | .res d, k => k % 1000 == d % 1000
/-- What an operation reads and turns of the rows. -/
structure Ent where
  rd : List Nat
  tc : Tc

/-- Operations that do not look at rows. -/
def rowFree (o : Oper) : Bool :=
  match o.op with
  | .move _ => true
  | .assign _ => true
  | .pick _ _ _ => true
  | .binOp _ _ _ _ _ => true
  | .unOp _ _ _ => true
  | .extract _ _ => true
  | .makeFunc _ _ _ => true
  | .field _ _ _ => true
  | .index _ _ _ => true
  | _ => false

def gVal (ops : Array Oper) (s : St) (o : Oper) : Option Bool :=
  match o.guard with
  | none => some true
  | some (j, want) => match (ops[j]?).bind (·.dst) with | some d => (match s.sl d with | .v (.bool b) => some (b == want) | .v (.tuple _) => some false | _ => none) | none => none

def names (ops : Array Oper) (o : Oper) : List Nat :=
  o.dst.toList ++ (o.op.operands.toList.filterMap fun | .tmp t => some t | _ => none) ++ (match o.guard with | some (j, _) => ((ops[j]?).bind (·.dst)).toList | none => [])

abbrev RowsF := Nat → Row
/-- A step: the value, the rows, what was read and turned. -/
structure Stp where
  val : PV
  rows : RowsF
  e : Ent
def St.step (s : St) (o : Oper) (x : Stp) : St := (St.mk s.sl x.rows).put o.dst x.val
/-- The step where other rows may have turned. -/
def St.stepIn (s : St) (o : Oper) (x : Stp) : St := (St.mk s.sl fun k => if x.e.tc.has k = true then x.rows k else s.rw k).put o.dst x.val

structure Local (ops : Array Oper) (o : Oper) (s s' : St) : Prop where
  ev : ∀ x ∈ o.op.operands, s'.ev x = s.ev x

inductive StepOk (P : Program) (G : Ghost) (ops : Array Oper) (s : St) (o : Oper) (x : Stp) : Prop
  | skip (hg : gVal ops s o = some false) (hp : x.val = .v undef) (hr : x.rows = s.rw) (ht : x.e.tc = .ids []) : StepOk P G ops s o x
  | step (hg : gVal ops s o = some true) (hr : ∀ k, x.e.tc.has k = false → x.rows k = s.rw k)
      (he : ∀ s' : St, (∀ k, k ∈ x.e.rd ∨ x.e.tc.has k = true → s'.rw k = s.rw k) → (∀ y ∈ o.op.operands, s'.ev y = s.ev y) → Effects P G s' o (s'.stepIn o x)) : StepOk P G ops s o x

inductive Tr (P : Program) (G : Ghost) (ops : Array Oper) : List Oper → St → List Stp → St → Prop
  | nil (s : St) : Tr P G ops [] s [] s
  | cons {o : Oper} {os : List Oper} {s s' : St} {x : Stp} {l : List Stp} (h : StepOk P G ops s o x) (t : Tr P G ops os (s.step o x) l s') : Tr P G ops (o :: os) s (x :: l) s'

def stAt : List Oper → List Stp → St → Nat → St
  | o :: os, x :: l, s, i + 1 => stAt os l (s.step o x) i
  | _, _, s, _ => s

section
variable {P : Program} {T : Tab} {G : Ghost} {ops : Array Oper}

theorem stAt_zero (l : List Oper) (tr : List Stp) (s : St) : stAt l tr s 0 = s := by cases l <;> cases tr <;> rfl

theorem Tr.length {l : List Oper} {s s' : St} {tr : List Stp} (h : Tr P G ops l s tr s') : tr.length = l.length := by
  induction h with
  | nil => rfl
  | cons _ _ ih => simp [ih]

theorem Tr.last {l : List Oper} {s s' : St} {tr : List Stp} (h : Tr P G ops l s tr s') : stAt l tr s l.length = s' := by
  induction h with
  | nil => rfl
  | cons _ _ ih => exact ih

theorem Tr.at {l : List Oper} {s s' : St} {tr : List Stp} (h : Tr P G ops l s tr s') : ∀ i (a : i < l.length) (b : i < tr.length), StepOk P G ops (stAt l tr s i) l[i] tr[i] ∧ stAt l tr s (i + 1) = (stAt l tr s i).step l[i] tr[i] := by
  induction h with
  | nil => intro i a; simp at a
  | cons h _ ih =>
    intro i a b
    cases i with
    | zero =>
      refine ⟨by rw [stAt_zero]; exact h, ?_⟩
      rw [stAt_zero]
      exact stAt_zero _ _ _
    | succ i =>
      exact ih i (by simpa using a) (by simpa using b)

def lastIdx : Nat → (Nat → Bool) → Option Nat
  | 0, _ => none
  | n + 1, p => if p n = true then some n else lastIdx n p

theorem lastIdx_congr : ∀ (n : Nat) (p q : Nat → Bool), (∀ k, k < n → p k = q k) → lastIdx n p = lastIdx n q := by
  intro n
  induction n with
  | zero => intro p q _; rfl
  | succ n ih => intro p q h; simp only [lastIdx]; rw [h n (by omega), ih p q fun k hk => h k (by omega)]

theorem lastIdx_cut : ∀ (n i : Nat) (p q : Nat → Bool), i ≤ n → (∀ k, k < i → p k = q k) → (∀ k, i ≤ k → k < n → p k = false) → lastIdx n p = lastIdx i q := by
  intro n
  induction n with
  | zero => intro i p q h _ _; obtain rfl : i = 0 := by omega
            rfl
  | succ n ih =>
    intro i p q h h1 h2
    by_cases hi : i = n + 1
    · subst hi; exact lastIdx_congr _ _ _ h1
    · simp only [lastIdx]
      rw [h2 n (by omega) (by omega)]
      exact ih i p q (by omega) h1 fun k a b => h2 k a (by omega)

theorem lastIdx_some : ∀ (n i : Nat) (p : Nat → Bool), i < n → p i = true → (∀ k, i < k → k < n → p k = false) → lastIdx n p = some i := by
  intro n
  induction n with
  | zero => intro i p h; omega
  | succ n ih =>
    intro i p h h1 h2
    by_cases hi : i = n
    · subst hi; simp [lastIdx, h1]
    · simp only [lastIdx]
      rw [h2 n (by omega) (by omega)]
      exact ih i p (by omega) h1 fun k a b => h2 k a (by omega)

/-- A slot by what has been done of the trace. -/
def slotD (l : List Oper) (tr : List Stp) (s : St) (D : Nat → Bool) (t : Nat) : PV :=
  match lastIdx l.length (fun k => D k && ((l[k]?).bind (·.dst) == some t)) with
  | some k => (tr[k]?.map (·.val)).getD .junk
  | none => s.sl t
def turnsAt (tr : List Stp) (k j : Nat) : Bool := (tr[j]?.map fun x => x.e.tc.has k).getD false
def rowsD (l : List Oper) (tr : List Stp) (s : St) (D : Nat → Bool) : RowsF := fun k =>
  match lastIdx l.length (fun j => D j && turnsAt tr k j) with
  | some j => (tr[j]?.map (fun x => x.rows k)).getD (s.rw k)
  | none => s.rw k

theorem step_sl (s : St) (o : Oper) (x : Stp) (t : Nat) : (s.step o x).sl t = if o.dst = some t then x.val else s.sl t := by
  unfold St.step St.put
  cases h : o.dst with
  | none => simp
  | some d =>
    simp only [Option.some.injEq]
    by_cases e : t = d
    · subst e; simp
    · rw [if_neg e, if_neg (fun h => e h.symm)]
theorem step_rw (s : St) (o : Oper) (x : Stp) : (s.step o x).rw = x.rows := by unfold St.step St.put; cases o.dst <;> rfl

theorem Tr.slots {l : List Oper} {s s' : St} {tr : List Stp} (h : Tr P G ops l s tr s') (t : Nat) : ∀ i, i ≤ l.length →
    (stAt l tr s i).sl t = match lastIdx i (fun k => (l[k]?).bind (·.dst) == some t) with | some k => (tr[k]?.map (·.val)).getD .junk | none => s.sl t := by
  intro i
  induction i with
  | zero => intro _; rw [stAt_zero]; rfl
  | succ i ih =>
    intro hi
    have hl : i < tr.length := by rw [h.length]; omega
    rw [(h.at i (by omega) hl).2, step_sl]
    simp only [lastIdx]
    have e : l[i]? = some l[i] := List.getElem?_eq_getElem (by omega)
    by_cases hd : l[i].dst = some t
    · rw [if_pos hd, if_pos (by simp [e, hd])]
      simp [List.getElem?_eq_getElem hl]
    · rw [if_neg hd, if_neg (by simp [e, hd])]
      exact ih (by omega)

theorem Tr.rows {l : List Oper} {s s' : St} {tr : List Stp} (h : Tr P G ops l s tr s') (k : Nat) : ∀ i, i ≤ l.length →
    (stAt l tr s i).rw k = match lastIdx i (turnsAt tr k) with | some j => (tr[j]?.map (fun x => x.rows k)).getD (s.rw k) | none => s.rw k := by
  intro i
  induction i with
  | zero => intro _; rw [stAt_zero]; rfl
  | succ i ih =>
    intro hi
    have hl : i < tr.length := by rw [h.length]; omega
    obtain ⟨hok, hst⟩ := h.at i (by omega) hl
    rw [hst, step_rw]
    simp only [lastIdx]
    have e : tr[i]? = some tr[i] := List.getElem?_eq_getElem hl
    by_cases hd : turnsAt tr k i = true
    · rw [if_pos hd]
      simp [e]
    · rw [if_neg hd, ← ih (by omega)]
      have hd' : tr[i].e.tc.has k = false := by simpa [turnsAt, e] using hd
      cases hok with
      | skip _ _ hr _ => rw [hr]
      | step _ hr _ => exact hr k hd'
end
end Go.Abs
