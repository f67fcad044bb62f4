/- DERIVED by an AI agent. The look at a region's edges; every order it allows. No program in sight. -/
import Derived.Test.YtfjjopfeipggiaaA21
namespace Go.Abs
set_option linter.unusedSimpArgs false

def directs (o : Oper) : List Nat := (o.after.toList.filter fun e => Region.binds .any e).map (·.on)
def maskOf (ms : List Nat) : List Nat → Nat
  | [] => 0
  | k :: ks => 2 ^ k ||| ms.getD k 0 ||| maskOf ms ks
def masks : List Oper → List Nat → List Nat
  | [], ms => ms
  | o :: os, ms => masks os (ms ++ [maskOf ms (directs o)])

theorem maskOf_bit (ms : List Nat) : ∀ (ks : List Nat) (i : Nat), (maskOf ms ks).testBit i = true → ∃ k ∈ ks, i = k ∨ (ms.getD k 0).testBit i = true := by
  intro ks
  induction ks with
  | nil => intro i h; simp [maskOf] at h
  | cons k ks ih =>
    intro i h
    simp only [maskOf, Nat.testBit_or, Bool.or_eq_true] at h
    rcases h with (h | h) | h
    · exact ⟨k, by simp, .inl (by rw [Nat.testBit_two_pow] at h; simp at h; exact h.symm)⟩
    · exact ⟨k, by simp, .inr h⟩
    · obtain ⟨k', hk, h⟩ := ih i h
      exact ⟨k', by simp [hk], h⟩

def GoodM (l : List Oper) (ms : List Nat) (n : Nat) : Prop := ∀ j, j < n → ∀ i, (ms.getD j 0).testBit i = true → ∃ k ∈ (l[j]?.map directs).getD [], i = k ∨ (ms.getD k 0).testBit i = true

theorem masks_good (l : List Oper) : ∀ (os pre : List Oper) (ms : List Nat), l = pre ++ os → ms.length = pre.length → GoodM l ms pre.length → GoodM l (masks os ms) l.length := by
  intro os
  induction os with
  | nil => intro pre ms h1 h2 h3; simp at h1; subst h1; exact h3
  | cons o os ih =>
    intro pre ms h1 h2 h3
    have hl : l[pre.length]? = some o := by rw [h1]; simp
    refine ih (pre ++ [o]) (ms ++ [maskOf ms (directs o)]) (by simp [h1]) (by simp [h2]) fun j hj i hb => ?_
    have keep : ∀ k, (ms.getD k 0).testBit i = true → ((ms ++ [maskOf ms (directs o)]).getD k 0).testBit i = true := fun k hk => by
      by_cases hlt : k < ms.length
      · simpa [List.getD, List.getElem?_append_left hlt] using hk
      · simp [List.getD, List.getElem?_eq_none (by omega : ms.length ≤ k)] at hk
    by_cases hlt : j < ms.length
    · have hb' : (ms.getD j 0).testBit i = true := by simpa [List.getD, List.getElem?_append_left hlt] using hb
      obtain ⟨k, hk, h⟩ := h3 j (by omega) i hb'
      exact ⟨k, hk, h.imp id (keep k)⟩
    · obtain rfl : j = pre.length := by simp at hj; omega
      have hb' : (maskOf ms (directs o)).testBit i = true := by
        have : (ms ++ [maskOf ms (directs o)]).getD pre.length 0 = maskOf ms (directs o) := by
          rw [← h2]; simp [List.getD]
        rwa [this] at hb
      obtain ⟨k, hk, h⟩ := maskOf_bit ms _ i hb'
      exact ⟨k, by simpa [hl] using hk, h.imp id (keep k)⟩

def meets (ops : Array Oper) (a b : Oper) : Bool :=
  (match a.dst with | some t => (names ops b).contains t | none => false) || (match b.dst with | some t => (names ops a).contains t | none => false)

def allBelow : Nat → (Nat → Bool) → Bool
  | 0, _ => true
  | n + 1, p => p n && allBelow n p
theorem allBelow_at : ∀ (n : Nat) (p : Nat → Bool), allBelow n p = true → ∀ k, k < n → p k = true := by
  intro n
  induction n with
  | zero => intro p _ k hk; omega
  | succ n ih =>
    intro p h k hk
    simp only [allBelow, Bool.and_eq_true] at h
    by_cases e : k = n
    · subst e; exact h.1
    · exact ih p h.2 k (by omega)

def tcHits : Tc → Tc → Bool
  | .ids l, t => l.any t.has
  | .res d, .ids l => l.any (Tc.res d).has
  | .res d, .res d' => d % 1000 == d' % 1000
theorem tcHits_of {a b : Tc} {k : Nat} (h1 : a.has k = true) (h2 : b.has k = true) : tcHits a b = true := by
  cases a with
  | ids l => simp only [tcHits, List.any_eq_true]; exact ⟨k, by simpa [Tc.has] using h1, h2⟩
  | res d =>
    cases b with
    | ids l => simp only [tcHits, List.any_eq_true]; exact ⟨k, by simpa [Tc.has] using h2, h1⟩
    | res d' => simp only [tcHits, Tc.has, beq_iff_eq] at h1 h2 ⊢; omega
def conf (a b : Ent) : Bool := a.rd.any b.tc.has || b.rd.any a.tc.has || tcHits a.tc b.tc
theorem conf_of {a b : Ent} {k : Nat} (h1 : k ∈ a.rd ∨ a.tc.has k = true) (h2 : b.tc.has k = true) : conf a b = true ∧ conf b a = true := by
  unfold conf
  rcases h1 with h1 | h1
  · have : a.rd.any b.tc.has = true := List.any_eq_true.2 ⟨k, h1, h2⟩
    simp [this]
  · simp [tcHits_of h1 h2, tcHits_of h2 h1]
/-- The look at rows: operations that meet in a row stand in an order that the edges force. -/
def lines (ops : Array Oper) (es : List Ent) : Bool :=
  allBelow es.length fun j => allBelow j fun i => match es[i]?, es[j]? with
    | some a, some b => !conf a b || ((masks ops.toList []).getD j 0).testBit i
    | _, _ => true

/-- The look: operations that meet stand in an order that the edges force. -/
def orderOk (ops : Array Oper) : Bool :=
  allBelow ops.size fun j => match ops[j]? with
    | none => true
    | some oj => (directs oj).all (· < j) && allBelow j fun i => match ops[i]? with
        | none => true
        | some oi => !meets ops oi oj || ((masks ops.toList []).getD j 0).testBit i

section
variable {P : Program} {T : Tab} {G : Ghost} {ops : Array Oper}

structure Ordered (ops : Array Oper) : Prop where
  low : ∀ j oj, ops[j]? = some oj → ∀ k ∈ directs oj, k < j
  bef : ∀ i j oi oj, i < j → ops[i]? = some oi → ops[j]? = some oj → meets ops oi oj = true → ((masks ops.toList []).getD j 0).testBit i = true

theorem ordered_of (h : orderOk ops = true) : Ordered ops := by
  have key : ∀ j oj, ops[j]? = some oj → ((directs oj).all (· < j) && allBelow j fun i => match ops[i]? with
        | none => true
        | some oi => !meets ops oi oj || ((masks ops.toList []).getD j 0).testBit i) = true := fun j oj hj => by
    have hlt : j < ops.size := (Array.getElem?_eq_some_iff.1 hj).1
    have := allBelow_at _ _ h j hlt
    simpa only [hj] using this
  refine ⟨fun j oj hj k hk => ?_, fun i j oi oj hij hi hj hm => ?_⟩
  · have := key j oj hj
    simp only [Bool.and_eq_true, List.all_eq_true] at this
    simpa using this.1 k hk
  · have := key j oj hj
    simp only [Bool.and_eq_true] at this
    have := allBelow_at _ _ this.2 i hij
    simp only [hi] at this
    simpa [hm] using this

def Lined (ops : Array Oper) (es : List Ent) : Prop := ∀ (i j : Nat) (a b : Ent), i < j → es[i]? = some a → es[j]? = some b → conf a b = true → ((masks ops.toList []).getD j 0).testBit i = true
theorem lined_of {es : List Ent} (h : lines ops es = true) : Lined ops es := by
  intro i j a b hij hi hj hc
  have hlt : j < es.length := (List.getElem?_eq_some_iff.1 hj).1
  have := allBelow_at _ _ (allBelow_at _ _ h j hlt) i hij
  simp only [hi, hj, hc] at this
  simpa using this

/-- What has been done is closed under what it waits for. -/
def Closed (ops : Array Oper) (D : Nat → Bool) : Prop := ∀ j oj, ops[j]? = some oj → D j = true → ∀ k ∈ directs oj, D k = true

theorem closed_bef (ho : Ordered ops) {D : Nat → Bool} (hc : Closed ops D) : ∀ (j : Nat) (oj : Oper), ops[j]? = some oj → (∀ k ∈ directs oj, D k = true) → ∀ i, ((masks ops.toList []).getD j 0).testBit i = true → D i = true := by
  intro j
  induction j using Nat.strongRecOn with
  | _ j ih =>
    intro oj hj hd i hb
    have hlt : j < ops.size := (Array.getElem?_eq_some_iff.1 hj).1
    have hg := masks_good ops.toList ops.toList [] [] rfl rfl (fun j hj => absurd hj (by simp)) j (by simpa using hlt) i hb
    obtain ⟨k, hk, h⟩ := hg
    have hjl : ops.toList[j]? = some oj := by simpa using hj
    rw [hjl] at hk
    simp at hk
    rcases h with rfl | h
    · exact hd i hk
    · have hkj := ho.low j oj hj k hk
      have hks : k < ops.size := by omega
      exact ih k hkj ops[k] (Array.getElem?_eq_getElem hks) (hc k ops[k] (Array.getElem?_eq_getElem hks) (hd k hk)) i h

/-- The state of what has been done of the trace. -/
def stD (ops : Array Oper) (tr : List Stp) (s : St) (D : Nat → Bool) : St := ⟨slotD ops.toList tr s D, rowsD ops.toList tr s D⟩

variable {s s' : St} {tr : List Stp}

theorem slot_ready (ho : Ordered ops) (ht : Tr P G ops ops.toList s tr s') {D : Nat → Bool} (hc : Closed ops D) {i : Nat} {o : Oper} (hi : ops[i]? = some o) (hD : D i = false) (hd : ∀ k ∈ directs o, D k = true)
    {t : Nat} (hn : t ∈ names ops o) : slotD ops.toList tr s D t = (stAt ops.toList tr s i).sl t := by
  have hlt : i < ops.size := (Array.getElem?_eq_some_iff.1 hi).1
  rw [ht.slots t i (by simp; omega)]
  unfold slotD
  have e : lastIdx ops.toList.length (fun k => D k && ((ops.toList[k]?).bind (·.dst) == some t)) = lastIdx i (fun k => (ops.toList[k]?).bind (·.dst) == some t) := by
    refine lastIdx_cut _ i _ _ (by simp; omega) (fun k hk => ?_) (fun k hk1 hk2 => ?_)
    · cases hb : ((ops.toList[k]?).bind (·.dst) == some t) with
      | false => simp
      | true =>
        have hks : k < ops.size := by omega
        have hok : ops[k]? = some ops[k] := Array.getElem?_eq_getElem hks
        have hdst : ops[k].dst = some t := by simpa [hok] using hb
        have hm : meets ops ops[k] o = true := by simp [meets, hdst, hn]
        have := closed_bef ho hc i o hi hd k (ho.bef k i _ _ hk hok hi hm)
        simp [this]
    · by_cases hb : ((ops.toList[k]?).bind (·.dst) == some t) = true
      · by_cases hki : k = i
        · subst hki; simp [hD]
        · have hks : k < ops.size := by simpa using hk2
          have hok : ops[k]? = some ops[k] := Array.getElem?_eq_getElem hks
          have hdst : ops[k].dst = some t := by simpa [hok] using hb
          have hm : meets ops o ops[k] = true := by simp [meets, hdst, hn]
          cases hDk : D k with
          | false => simp
          | true =>
            have := closed_bef ho hc k _ hok (hc k _ hok hDk) i (ho.bef i k _ _ (by omega) hi hok hm)
            rw [hD] at this; cases this
      · rw [Bool.not_eq_true] at hb
        simp only [hb, Bool.and_false]
  rw [e]

theorem line_row (hl : Lined ops (tr.map (·.e))) {i j k : Nat} {x : Stp} (hx : tr[i]? = some x) (hk : k ∈ x.e.rd ∨ x.e.tc.has k = true) (hj : turnsAt tr k j = true) :
    (j < i → ((masks ops.toList []).getD i 0).testBit j = true) ∧ (i < j → ((masks ops.toList []).getD j 0).testBit i = true) := by
  unfold turnsAt at hj
  cases hy : tr[j]? with
  | none => rw [hy] at hj; cases hj
  | some y =>
    rw [hy] at hj
    obtain ⟨c1, c2⟩ := conf_of hk (show y.e.tc.has k = true by simpa using hj)
    have e1 : (tr.map (·.e))[i]? = some x.e := by simp [hx]
    have e2 : (tr.map (·.e))[j]? = some y.e := by simp [hy]
    exact ⟨fun h => hl j i _ _ h e2 e1 c2, fun h => hl i j _ _ h e1 e2 c1⟩

theorem rows_ready (ho : Ordered ops) (hl : Lined ops (tr.map (·.e))) (ht : Tr P G ops ops.toList s tr s') {D : Nat → Bool} (hc : Closed ops D) {i : Nat} {o : Oper} (hi : ops[i]? = some o) (hD : D i = false) (hd : ∀ k ∈ directs o, D k = true)
    {x : Stp} (hx : tr[i]? = some x) {k : Nat} (hk : k ∈ x.e.rd ∨ x.e.tc.has k = true) : rowsD ops.toList tr s D k = (stAt ops.toList tr s i).rw k := by
  have hlt : i < ops.size := (Array.getElem?_eq_some_iff.1 hi).1
  rw [ht.rows k i (by simp; omega)]
  unfold rowsD
  have e : lastIdx ops.toList.length (fun j => D j && turnsAt tr k j) = lastIdx i (turnsAt tr k) := by
    refine lastIdx_cut _ i _ _ (by simp; omega) (fun j hj => ?_) (fun j hj1 hj2 => ?_)
    · cases hb : turnsAt tr k j with
      | false => simp
      | true =>
        have := closed_bef ho hc i o hi hd j ((line_row hl hx hk hb).1 hj)
        simp [this]
    · cases hb : turnsAt tr k j with
      | false => simp
      | true =>
        by_cases hki : j = i
        · subst hki; simp [hD]
        · have hks : j < ops.size := by simpa using hj2
          have hok : ops[j]? = some ops[j] := Array.getElem?_eq_getElem hks
          cases hDk : D j with
          | false => simp
          | true =>
            have := closed_bef ho hc j _ hok (hc j _ hok hDk) i ((line_row hl hx hk hb).2 (by omega))
            rw [hD] at this; cases this
  rw [e]

/-- One operation more is done. -/
theorem stD_done (ho : Ordered ops) (hl : Lined ops (tr.map (·.e))) {D : Nat → Bool} (hc : Closed ops D) {i : Nat} {o : Oper} (hi : ops[i]? = some o) (hD : D i = false)
    {x : Stp} (hx : tr[i]? = some x) :
    stD ops tr s (fun k => D k || k == i) = (stD ops tr s D).stepIn o x := by
  have hlt : i < ops.size := (Array.getElem?_eq_some_iff.1 hi).1
  have hil : ops.toList[i]? = some o := by simpa using hi
  have e1 : (stD ops tr s (fun k => D k || k == i)).sl = ((stD ops tr s D).stepIn o x).sl := by
    funext t
    have es : ((stD ops tr s D).stepIn o x).sl t = if o.dst = some t then x.val else (stD ops tr s D).sl t := by
      unfold St.stepIn St.put
      cases h : o.dst with
      | none => simp
      | some d =>
        simp only [Option.some.injEq]
        by_cases e : t = d
        · subst e; simp
        · rw [if_neg e, if_neg (fun h => e h.symm)]
    rw [es]
    by_cases hdst : o.dst = some t
    · rw [if_pos hdst]
      show slotD _ _ _ _ t = _
      unfold slotD
      rw [lastIdx_some _ i _ (by simpa using hlt) (by simp [hil, hdst]) (fun k hk1 hk2 => ?_)]
      · simp [hx]
      · have hk2' : k < ops.size := by simpa using hk2
        have hok : ops[k]? = some ops[k] := Array.getElem?_eq_getElem hk2'
        have hne : (k == i) = false := by simp; omega
        simp only [hne, Bool.or_false]
        cases hDk : D k with
        | false => simp
        | true =>
          by_cases hd : ops[k].dst = some t
          · have hm : meets ops o ops[k] = true := by simp [meets, hdst, names, hd]
            have := closed_bef ho hc k _ hok (hc k _ hok hDk) i (ho.bef i k _ _ hk1 hi hok hm)
            rw [hD] at this; cases this
          · simp [hok, hd]
    · rw [if_neg hdst]
      show slotD _ _ _ _ t = slotD _ _ _ D t
      unfold slotD
      rw [lastIdx_congr _ _ (fun k => D k && ((ops.toList[k]?).bind (·.dst) == some t)) fun k hk => ?_]
      by_cases hki : k = i
      · subst hki; simp [hil, hdst]
      · have : (k == i) = false := by simp [hki]
        simp [this]
  have e2 : (stD ops tr s (fun k => D k || k == i)).rw = ((stD ops tr s D).stepIn o x).rw := by
    funext k
    have es : ((stD ops tr s D).stepIn o x).rw k = if x.e.tc.has k = true then x.rows k else (stD ops tr s D).rw k := by unfold St.stepIn St.put; cases o.dst <;> rfl
    rw [es]
    have hti : turnsAt tr k i = x.e.tc.has k := by simp [turnsAt, hx]
    by_cases hw : x.e.tc.has k = true
    · rw [if_pos hw]
      show rowsD _ _ _ _ k = _
      unfold rowsD
      rw [lastIdx_some _ i _ (by simpa using hlt) (by simp [hti, hw]) (fun j hk1 hk2 => ?_)]
      · simp [hx]
      · have hk2' : j < ops.size := by simpa using hk2
        have hok : ops[j]? = some ops[j] := Array.getElem?_eq_getElem hk2'
        have hne : (j == i) = false := by simp; omega
        simp only [hne, Bool.or_false]
        cases hDk : D j with
        | false => simp
        | true =>
          cases hb : turnsAt tr k j with
          | false => simp
          | true =>
            have := closed_bef ho hc j _ hok (hc j _ hok hDk) i ((line_row hl hx (.inr hw) hb).2 hk1)
            rw [hD] at this; cases this
    · rw [if_neg hw]
      show rowsD _ _ _ _ k = rowsD _ _ _ D k
      unfold rowsD
      rw [lastIdx_congr _ _ (fun j => D j && turnsAt tr k j) fun j hk => ?_]
      by_cases hki : j = i
      · subst hki; simp [hti, hw]
      · have : (j == i) = false := by simp [hki]
        simp [this]
  cases hA : stD ops tr s (fun k => D k || k == i) with
  | mk a b =>
    cases hB : (stD ops tr s D).stepIn o x with
    | mk c d =>
      rw [hA, hB] at e1 e2
      simp only at e1 e2
      rw [e1, e2]

end
end Go.Abs
