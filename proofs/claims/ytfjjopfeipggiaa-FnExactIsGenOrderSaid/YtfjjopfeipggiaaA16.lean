/- DERIVED by an AI agent. New variables, new slices, calls whose rows are taken over. No program in sight. -/
import Derived.Test.YtfjjopfeipggiaaA15
namespace Go.Abs
set_option linter.unusedSimpArgs false

/-- The leaves of a result that are rows. -/
def leaves : RV → List (TypeId × Nat × List PV)
  | .im _ => []
  | .fr e sz c => [(e, sz, c)]
  | .ag l => (l.attach.map fun ⟨x, _⟩ => leaves x).flatten
  | .tup l => (l.attach.map fun ⟨x, _⟩ => leaves x).flatten

theorem leaves_ag (l : List RV) : leaves (.ag l) = (l.map leaves).flatten := by rw [leaves]; simp
theorem leaves_tup (l : List RV) : leaves (.tup l) = (l.map leaves).flatten := by rw [leaves]; simp

/-- The number of the row for the i-th leaf of what lands in slot d. -/
def leafId (d i : Nat) : Nat := d + 1000 * i

/-- A list of results one behind the other, the i-th leaf on. -/
def adoptL (f : RV → Nat → PV) : List RV → Nat → List PV
  | [], _ => []
  | x :: xs, i => f x i :: adoptL f xs (i + (leaves x).length)

/-- A result as the caller's own value. Two layers deep. -/
def adopt0 (vr : Nat → Nat) (d : Nat) : RV → Nat → PV
  | .im p, _ => setIf true p
  | .fr _ _ _, i => .own (leafId d i) (vr (leafId d i) + 1)
  | .ag _, _ => .junk
  | .tup _, _ => .junk
def adopt1 (vr : Nat → Nat) (d : Nat) : RV → Nat → PV
  | .ag l, i => .ag (adoptL (adopt0 vr d) l i)
  | .tup l, i => .tup (adoptL (adopt0 vr d) l i)
  | x, i => adopt0 vr d x i
def adopt2 (vr : Nat → Nat) (d : Nat) : RV → Nat → PV
  | .ag l, i => .ag (adoptL (adopt1 vr d) l i)
  | .tup l, i => .tup (adoptL (adopt1 vr d) l i)
  | x, i => adopt0 vr d x i

def addRows (rw : Nat → Row) (d : Nat) : List (TypeId × Nat × List PV) → Nat → Nat → Row
  | [], _ => rw
  | (e, sz, c) :: ls, i => updF (addRows rw d ls (i + 1)) (leafId d i) ⟨(rw (leafId d i)).ver + 1, .sli e sz false c⟩

/-- The state behind a call whose result lands in slot d: its rows are the caller's. -/
def adoptSt (s : St) (d : Nat) (rv : RV) : St :=
  (St.mk s.sl (addRows s.rw d (leaves rv) 0)).put (some d) (adopt2 (fun k => (s.rw k).ver) d rv 0)

/-- What OutR says of a leaf: a block, or none at nil. -/
inductive LeafAt (w : World) (E : Env) : (TypeId × Nat × List PV) → Value × Option Nat → Prop
  | nil {e sz : Nat} : LeafAt w E (e, sz, []) (.slice none 0 0, none)
  | fr {e sz b n cap : Nat} {cells : List PV} {vs rest : List Value} (hB : E.B ≤ b) (hh : w.heap[b]? = some (.cells (vs ++ rest).toArray e (0, 0)))
      (hn : vs.length = n * sz) (hc : n ≤ cap) (hm : cap ≤ maxLen) (hl : (vs ++ rest).length = cap * sz) (hr : RepL w E.bare E.B cells vs) :
      LeafAt w E (e, sz, cells) (.slice (some ⟨b, 0, none⟩) n cap, some b)

inductive LeafsAt (w : World) (E : Env) : List (TypeId × Nat × List PV) → List (Value × Option Nat) → Prop
  | nil : LeafsAt w E [] []
  | cons {x : TypeId × Nat × List PV} {y : Value × Option Nat} {xs : List (TypeId × Nat × List PV)} {ys : List (Value × Option Nat)} (h : LeafAt w E x y) (hs : LeafsAt w E xs ys) : LeafsAt w E (x :: xs) (y :: ys)

theorem LeafsAt.append {w : World} {E : Env} {a c : List (TypeId × Nat × List PV)} {b d : List (Value × Option Nat)} (h : LeafsAt w E a b) (k : LeafsAt w E c d) : LeafsAt w E (a ++ c) (b ++ d) := by
  induction h with
  | nil => exact k
  | cons h _ ih => exact .cons h ih
theorem LeafsAt.length {w : World} {E : Env} {a : List (TypeId × Nat × List PV)} {b : List (Value × Option Nat)} (h : LeafsAt w E a b) : b.length = a.length := by
  induction h with
  | nil => rfl
  | cons h _ ih => simp [ih]

theorem OutR.leafs {w : World} {E : Env} {rv : RV} {v : Value} {lv : List (Value × Option Nat)} (h : OutR w E rv v lv) : LeafsAt w E (leaves rv) lv := by
  have flat : ∀ (l : List RV) (bss : List (List (Value × Option Nat))), l.length = bss.length → (∀ i (a : i < l.length) (c : i < bss.length), LeafsAt w E (leaves l[i]) bss[i]) → LeafsAt w E (l.map leaves).flatten bss.flatten := by
    intro l
    induction l with
    | nil => intro bss h _; cases bss with | nil => exact .nil | cons x y => simp at h
    | cons x xs ih =>
      intro bss h hh
      cases bss with
      | nil => simp at h
      | cons y ys =>
        simp only [List.map_cons, List.flatten_cons]
        exact (hh 0 (by simp) (by simp)).append (ih ys (by simpa using h) fun i a c => hh (i + 1) (by simpa using a) (by simpa using c))
  induction h with
  | im h => rw [leaves]; exact .nil
  | nil => rw [leaves]; exact .cons .nil .nil
  | fr hB hh hn hc hm hl hr => rw [leaves]; exact .cons (.fr hB hh hn hc hm hl hr) .nil
  | @ag l vs bss e1 e2 hh ih => rw [leaves_ag]; exact flat l bss e2 fun i a c => ih i a (by omega) c
  | @tup l vs bss e1 e2 hh ih => rw [leaves_tup]; exact flat l bss e2 fun i a c => ih i a (by omega) c

/-- The caller's rows for the leaves from the i-th on. -/
def Agr (E : Env) (vr : Nat → Nat) (d i : Nat) (lv : List (Value × Option Nat)) : Prop := ∀ j (h : j < lv.length), (E.R (leafId d (i + j))).ver = vr (leafId d (i + j)) + 1 ∧ E.rv (leafId d (i + j)) = lv[j].1

theorem Agr.left {E : Env} {vr : Nat → Nat} {d i : Nat} {x y : List (Value × Option Nat)} (h : Agr E vr d i (x ++ y)) : Agr E vr d i x := fun j hj => by
  have := h j (by simp; omega)
  rwa [List.getElem_append_left hj] at this
theorem Agr.right {E : Env} {vr : Nat → Nat} {d i : Nat} {x y : List (Value × Option Nat)} (h : Agr E vr d i (x ++ y)) : Agr E vr d (i + x.length) y := fun j hj => by
  have := h (x.length + j) (by simp; omega)
  rw [List.getElem_append_right (by omega)] at this
  simpa [Nat.add_assoc] using this

section
variable {w : World} {E E' : Env} {vr : Nat → Nat} {d : Nat}

def Adopts (w : World) (E E' : Env) (vr : Nat → Nat) (d : Nat) (f : RV → Nat → PV) : Prop :=
  ∀ (rv : RV) (v : Value) (lv : List (Value × Option Nat)) (i : Nat), OutR w E rv v lv → Agr E' vr d i lv → Rep w E' 0 (f rv i) v

theorem adoptL_rep {f : RV → Nat → PV} (hf : Adopts w E E' vr d f) : ∀ (l : List RV) (vs : List Value) (bss : List (List (Value × Option Nat))) (i : Nat), l.length = vs.length → l.length = bss.length →
    (∀ j (a : j < l.length) (b : j < vs.length) (c : j < bss.length), OutR w E l[j] vs[j] bss[j]) → Agr E' vr d i bss.flatten → RepL w E' 0 (adoptL f l i) vs := by
  intro l
  induction l with
  | nil => intro vs bss i h1 _ _ _; cases vs with | nil => exact ⟨rfl, fun i a => absurd a (by simp [adoptL])⟩ | cons x y => simp at h1
  | cons x xs ih =>
    intro vs bss i h1 h2 hh hag
    cases vs with
    | nil => simp at h1
    | cons v vs =>
      cases bss with
      | nil => simp at h2
      | cons b bss =>
        have h0 := hh 0 (by simp) (by simp) (by simp)
        simp only [List.getElem_cons_zero] at h0
        rw [List.flatten_cons] at hag
        have hx := hf x v b i h0 hag.left
        have hlen : b.length = (leaves x).length := h0.leafs.length
        have hrest := ih vs bss (i + (leaves x).length) (by simpa using h1) (by simpa using h2) (fun j a b c => hh (j + 1) (by simpa using a) (by simpa using b) (by simpa using c)) (by rw [← hlen]; exact hag.right)
        refine ⟨by simp [adoptL, hrest.1], fun j a b => ?_⟩
        cases j with
        | zero => exact hx
        | succ j => exact hrest.2 j (by simpa [adoptL] using a) (by simpa using b)

theorem adopt0_rep (hl : Lasts w w E.bare E'.bare) (hB : E'.B ≤ E.B) : Adopts w E E' vr d (adopt0 vr d) := by
  intro rv v lv i h hag
  have own : ∀ {v' : Value} {m : Option Nat}, Agr E' vr d i [(v', m)] → Rep w E' 0 (.own (leafId d i) (vr (leafId d i) + 1)) v' := fun hag => by
    have := hag 0 (by simp)
    simp at this
    exact .own (by rw [this.1]; exact Nat.le_refl _) fun _ _ => this.2.symm
  cases h with
  | im h => exact rep_setIf (h.mono hl (Nat.le_refl _)) (by simpa [Env.lo] using hB)
  | nil => exact own hag
  | fr => exact own hag
  | ag => exact .junk _
  | tup => exact .junk _

theorem adopt1_rep (hl : Lasts w w E.bare E'.bare) (hB : E'.B ≤ E.B) : Adopts w E E' vr d (adopt1 vr d) := by
  intro rv v lv i h hag
  have h0 := adopt0_rep (vr := vr) (d := d) hl hB
  cases h with
  | @im p _ h => exact h0 (.im p) _ _ i (.im h) hag
  | @nil e sz => exact h0 (.fr e sz []) _ _ i .nil hag
  | @fr e sz _ _ _ cells _ _ a b c k f g j => exact h0 (.fr e sz cells) _ _ i (.fr a b c k f g j) hag
  | ag e1 e2 hh => have := adoptL_rep h0 _ _ _ i e1 e2 hh hag; exact .ag this.1 this.2
  | tup e1 e2 hh => have := adoptL_rep h0 _ _ _ i e1 e2 hh hag; exact .tup this.1 this.2

theorem adopt2_rep (hl : Lasts w w E.bare E'.bare) (hB : E'.B ≤ E.B) : Adopts w E E' vr d (adopt2 vr d) := by
  intro rv v lv i h hag
  have h0 := adopt0_rep (vr := vr) (d := d) hl hB
  have h1 := adopt1_rep (vr := vr) (d := d) hl hB
  cases h with
  | @im p _ h => exact h0 (.im p) _ _ i (.im h) hag
  | @nil e sz => exact h0 (.fr e sz []) _ _ i .nil hag
  | @fr e sz _ _ _ cells _ _ a b c k f g j => exact h0 (.fr e sz cells) _ _ i (.fr a b c k f g j) hag
  | ag e1 e2 hh => have := adoptL_rep h1 _ _ _ i e1 e2 hh hag; exact .ag this.1 this.2
  | tup e1 e2 hh => have := adoptL_rep h1 _ _ _ i e1 e2 hh hag; exact .tup this.1 this.2
end

end Go.Abs
