/- DERIVED by an AI agent. Rows given over to a callee that writes into them. No program in sight. -/
import Derived.Test.YtfjjopfeipggiaaA19b
namespace Go.Abs
set_option linter.unusedSimpArgs false
set_option linter.unusedVariables false

/-- A row given over: what its cells are. -/
structure LR where
  e : Nat
  sz : Nat
  c : List PV

def inR (ins : List LR) (k : Nat) : Row := if lent ≤ k then (match ins[k - lent]? with | some r => ⟨1, .sli r.e r.sz false r.c⟩ | none => ⟨0, .dead⟩) else ⟨0, .dead⟩

def plain (c : List PV) : Prop := ∀ p ∈ c, isV p = true

/-- A CONTRACT of a function that writes into rows that it is given: what these are then. -/
def AM (P : Program) (f : FuncId) (args : List PV) (ins : List LR) (outs : List (List PV)) (x : Value) : Prop :=
  Enters P f ∧ (∀ r ∈ ins, plain r.c) ∧ outs.length = ins.length ∧ (∀ c ∈ outs, plain c) ∧
    ∀ (w : World) (M : Nat → Prop) (E : Env) (vals : List Value), WOk ⟨w, M, 0, fun k => (E.R k).ver, E.rm, E.rv⟩ E w → E.R = inR ins → RepL w E 0 args vals →
      Calls P f vals.toArray w fun e w' => e = .returned x ∧ ∃ E', WOk ⟨w, M, 0, fun k => (E.R k).ver, E.rm, E.rv⟩ E' w' ∧
        ∀ (i : Nat) (r : LR) (c : List PV), ins[i]? = some r → outs[i]? = some c → E'.R (lent + i) = ⟨1, .sli r.e r.sz false c⟩

/-- Arguments: plain values, rows given over. -/
inductive GiveL (js : List (Nat × Nat)) : List PV → List PV → Prop
  | nil : GiveL js [] []
  | v {x : Value} {l l' : List PV} : GiveL js l l' → GiveL js (.v x :: l) (.v x :: l')
  | own {k ver : Nat} {l l' : List PV} (i : Nat) : js[i]? = some (k, ver) → GiveL js l l' → GiveL js (.own k ver :: l) (.own (lent + i) 1 :: l')
  | ag {c c' l l' : List PV} : GiveL js c c' → GiveL js l l' → GiveL js (.ag c :: l) (.ag c' :: l')

/-- The rows that are given are the state's own, and live. -/
def HeldL (rw : Nat → Row) : List (Nat × Nat) → List LR → Prop
  | [], [] => True
  | j :: js, r :: ins => rw j.1 = ⟨j.2, .sli r.e r.sz false r.c⟩ ∧ HeldL rw js ins
  | _, _ => False

/-- The rows as they come back. -/
def wroteF (R : Nat → Row) (js : List (Nat × Nat)) (ins : List LR) (outs : List (List PV)) (k : Nat) : Row :=
  match js.findIdx? (fun j => j.1 == k) with
  | some i => (match js[i]?, ins[i]?, outs[i]? with | some j, some r, some c => ⟨j.2, .sli r.e r.sz false c⟩ | _, _, _ => R k)
  | none => R k
def St.wrote (s : St) (js : List (Nat × Nat)) (ins : List LR) (outs : List (List PV)) : St := { s with rw := wroteF s.rw js ins outs }

/-- A call that is given rows. -/
def askM (P : Program) (s : St) (g : FuncId) (raw : List PV) (dst : Option Nat) (K : St → Prop) : Prop :=
  ∃ (js : List (Nat × Nat)) (ins : List LR) (args : List PV) (outs : List (List PV)) (x : Value),
    AM P g args ins outs x ∧ GiveL js raw args ∧ HeldL s.rw js ins ∧ (js.map (·.1)).Nodup ∧ K ((s.wrote js ins outs).put dst (.v x))

def callM (P : Program) (s : St) (f : Operand) (args : Array Operand) (dst : Option Nat) (K : St → Prop) : Prop :=
  match s.ev f with
  | .clo g caps => askM P s g (args.toList.map s.ev ++ caps) dst K
  | _ => False

theorem HeldL.at {rw : Nat → Row} : ∀ {js : List (Nat × Nat)} {ins : List LR}, HeldL rw js ins → js.length = ins.length ∧ ∀ (i : Nat) (j : Nat × Nat) (r : LR), js[i]? = some j → ins[i]? = some r → rw j.1 = ⟨j.2, .sli r.e r.sz false r.c⟩ := by
  intro js
  induction js with
  | nil => intro ins h; cases ins with
    | nil => exact ⟨rfl, fun i j r h => by simp at h⟩
    | cons _ _ => exact h.elim
  | cons j js ih =>
    intro ins h
    cases ins with
    | nil => exact h.elim
    | cons r ins =>
      obtain ⟨h1, h2⟩ := h
      obtain ⟨a, b⟩ := ih h2
      refine ⟨by simp [a], fun i j' r' hj hr => ?_⟩
      cases i with
      | zero => simp at hj hr; subst hj; subst hr; exact h1
      | succ i => exact b i j' r' (by simpa using hj) (by simpa using hr)

theorem wroteF_at {R : Nat → Row} {js : List (Nat × Nat)} {ins : List LR} {outs : List (List PV)} (hn : (js.map (·.1)).Nodup) {i : Nat} {j : Nat × Nat} {r : LR} {c : List PV} (hj : js[i]? = some j) (hr : ins[i]? = some r) (hc : outs[i]? = some c) :
    wroteF R js ins outs j.1 = ⟨j.2, .sli r.e r.sz false c⟩ := by
  have hi : i < js.length := (List.getElem?_eq_some_iff.1 hj).1
  have hji : js[i] = j := (List.getElem?_eq_some_iff.1 hj).2
  have : js.findIdx? (fun x => x.1 == j.1) = some i := by
    rw [List.findIdx?_eq_some_iff_getElem]
    refine ⟨hi, by simp [hji], fun k hk => ?_⟩
    have hp := List.pairwise_iff_getElem.1 hn k i (by simp; omega) (by simp; omega) hk
    simp only [List.getElem_map, hji] at hp
    simpa using hp
  unfold wroteF
  rw [this]
  simp only [hj, hr, hc]

theorem wroteF_not {R : Nat → Row} {js : List (Nat × Nat)} {ins : List LR} {outs : List (List PV)} {k : Nat} (h : k ∉ js.map (·.1)) : wroteF R js ins outs k = R k := by
  have : js.findIdx? (fun x => x.1 == k) = none := by
    rw [List.findIdx?_eq_none_iff]
    intro x hx
    have : x.1 ≠ k := fun e => h (List.mem_map.2 ⟨x, hx, e⟩)
    simpa using this
  unfold wroteF
  rw [this]

theorem plain_rep {w w' : World} {E E' : Env} {lo lo' : Nat} {c : List PV} {vs : List Value} (h : plain c) (hr : RepL w E lo c vs) : RepL w' E' lo' c vs :=
  ⟨hr.1, fun i a b => (isV_rep (h _ (List.getElem_mem a)) (hr.2 i a b)).1⟩

section
variable {P : Program} {G : Ghost} {s : St}

/-- The callee's ghost. -/
def Env.give (E : Env) (js : List (Nat × Nat)) (ins : List LR) (B : Nat) : Env :=
  let R := inR ins
  let rm := fun k => if lent ≤ k then (js[k - lent]?).bind fun j => E.rm j.1 else none
  { R := R, rm := rm, rv := fun k => if lent ≤ k then (match js[k - lent]? with | some j => E.rv j.1 | none => default) else default, L := mkL R rm, B := B }

theorem inR_nd {ins : List LR} {k : Nat} (h : (inR ins k).kind.nd = true) : lent ≤ k ∧ ∃ r, ins[k - lent]? = some r ∧ inR ins k = ⟨1, .sli r.e r.sz false r.c⟩ := by
  unfold inR at h ⊢
  by_cases hk : lent ≤ k
  · rw [if_pos hk] at h ⊢
    split at h
    · rename_i r hr; exact ⟨hk, r, hr, rfl⟩
    · cases h
  · rw [if_neg hk] at h; cases h
theorem inR_at {ins : List LR} {i : Nat} {r : LR} (h : ins[i]? = some r) : inR ins (lent + i) = ⟨1, .sli r.e r.sz false r.c⟩ := by
  unfold inR
  rw [if_pos (by omega), Nat.add_sub_cancel_left, h]

def giveM (E : Env) (js : List (Nat × Nat)) (b : Nat) : Prop := ∃ j ∈ js, E.rm j.1 = some b

theorem give_ok {E : Env} {w : World} (hw : WOk G E w) {js : List (Nat × Nat)} {ins : List LR} (hh : HeldL E.R js ins) (hn : (js.map (·.1)).Nodup) (hp : ∀ r ∈ ins, plain r.c) :
    WOk ⟨w, giveM E js, 0, fun k => ((E.give js ins w.heap.size).R k).ver, (E.give js ins w.heap.size).rm, (E.give js ins w.heap.size).rv⟩ (E.give js ins w.heap.size) w := by
  obtain ⟨hlen, hat⟩ := hh.at
  have key0 : ∀ (n : Nat) (r : LR), ins[n]? = some r → ∃ j, js[n]? = some j ∧ E.R j.1 = ⟨j.2, .sli r.e r.sz false r.c⟩ := fun n r hr => by
    have hi : n < js.length := by rw [hlen]; exact (List.getElem?_eq_some_iff.1 hr).1
    exact ⟨_, List.getElem?_eq_getElem hi, hat _ _ _ (List.getElem?_eq_getElem hi) hr⟩
  have key : ∀ (k : Nat) (r : LR), lent ≤ k → ins[k - lent]? = some r → ∃ j, js[k - lent]? = some j ∧ E.R j.1 = ⟨j.2, .sli r.e r.sz false r.c⟩ := fun k r _ hr => key0 _ r hr
  refine ⟨fun k => ?_, fun k k' b n1 n2 e1 e2 => ?_, fun b => Iff.rfl, fun k h => ?_, rfl, ⟨rfl, rfl, rfl, Nat.le_refl _, fun _ _ _ => rfl⟩, fun k => ⟨Nat.le_refl _, fun _ _ => ⟨rfl, rfl⟩⟩⟩
  · show RowOk w (E.give js ins w.heap.size) _ k
    unfold RowOk
    show match (inR ins k).kind with | .dead => True | .nil => _ | .box t cells => _ | .sli e sz _ cells => _
    cases hd : (inR ins k).kind with
    | dead => trivial
    | _ =>
      obtain ⟨hk, r, hr, he⟩ := inR_nd (ins := ins) (k := k) (by rw [hd]; rfl)
      rw [he] at hd
      cases hd
      all_goals
        obtain ⟨j, hj, hrow⟩ := key k r hk hr
        have h0 := hw.rows j.1
        unfold RowOk at h0
        rw [hrow] at h0
        simp only at h0
        have em : (E.give js ins w.heap.size).rm k = E.rm j.1 := by simp [Env.give, hk, hj]
        have ev : (E.give js ins w.heap.size).rv k = E.rv j.1 := by simp [Env.give, hk, hj]
        rw [em, ev]
        rcases h0 with h0 | ⟨b, n, cap, vs, rest, h1, h2, h3, h4, h5, h6, h7, h8, h9⟩
        · exact .inl h0
        · exact .inr ⟨b, n, cap, vs, rest, h1, .inr ⟨hk, j, List.mem_of_getElem? hj, h1⟩, h3, h4, h5, h6, h7, h8, plain_rep (hp r (List.mem_of_getElem? hr)) h9⟩
  · obtain ⟨hk, r, hr, _⟩ := inR_nd (ins := ins) (k := k) n1
    obtain ⟨hk', r', hr', _⟩ := inR_nd (ins := ins) (k := k') n2
    obtain ⟨j, hj, hrow⟩ := key k r hk hr
    obtain ⟨j', hj', hrow'⟩ := key k' r' hk' hr'
    have e1' : E.rm j.1 = some b := by simpa [Env.give, hk, hj] using e1
    have e2' : E.rm j'.1 = some b := by simpa [Env.give, hk', hj'] using e2
    have := hw.inj j.1 j'.1 b (by rw [hrow]; rfl) (by rw [hrow']; rfl) e1' e2'
    have hi := (List.getElem?_eq_some_iff.1 hj)
    have hi' := (List.getElem?_eq_some_iff.1 hj')
    obtain ⟨a1, a2⟩ := hi
    obtain ⟨b1, b2⟩ := hi'
    have : k - lent = k' - lent := (List.getElem_inj (h₀ := by simp; omega) (h₁ := by simp; omega) hn).1 (by simp [a2, b2, this])
    omega
  · obtain ⟨hk, r, hr, he⟩ := inR_nd (ins := ins) (k := k) h
    show 0 < (inR ins k).ver
    rw [he]; exact Nat.one_pos

theorem give_rep {E : Env} {w : World} {js : List (Nat × Nat)} {ins : List LR} (hh : HeldL E.R js ins) (B : Nat) {raw args : List PV} (hg : GiveL js raw args) : ∀ {vals : List Value}, RepL w E 0 raw vals → RepL w (E.give js ins B) 0 args vals := by
  obtain ⟨hlen, hat⟩ := hh.at
  induction hg with
  | nil => intro vals h; exact ⟨h.1, fun i a => absurd a (by simp)⟩
  | @v x l l' _ ih =>
    intro vals h
    cases vals with
    | nil => simp [RepL] at h
    | cons y ys =>
      have h0 := h.2 0 (by simp) (by simp)
      simp only [List.getElem_cons_zero] at h0
      have := h0.v_eq; subst this
      have ht := ih (vals := ys) ⟨by simpa using h.1, fun i a b => h.2 (i + 1) (by simpa using a) (by simpa using b)⟩
      refine ⟨by simp [ht.1], fun i a b => ?_⟩
      cases i with
      | zero => exact .v _
      | succ i => exact ht.2 i (by simpa using a) (by simpa using b)
  | @own k ver l l' i hj _ ih =>
    intro vals h
    cases vals with
    | nil => simp [RepL] at h
    | cons y ys =>
      have h0 := h.2 0 (by simp) (by simp)
      simp only [List.getElem_cons_zero] at h0
      have ht := ih (vals := ys) ⟨by simpa using h.1, fun i a b => h.2 (i + 1) (by simpa using a) (by simpa using b)⟩
      refine ⟨by simp [ht.1], fun i' a b => ?_⟩
      cases i' with
      | zero =>
        have hi : i < ins.length := by rw [← hlen]; exact (List.getElem?_eq_some_iff.1 hj).1
        have hr : ins[i]? = some ins[i] := List.getElem?_eq_getElem hi
        have hrow := hat i _ _ hj hr
        cases h0 with
        | own hv hx =>
          refine .own ?_ fun _ _ => ?_
          · show 1 ≤ (inR ins (lent + i)).ver
            rw [inR_at hr]; exact Nat.le_refl _
          · have hx' := hx (by rw [hrow]) (by rw [hrow]; rfl)
            show y = _
            rw [hx']
            simp [Env.give, hj]
      | succ i' => exact ht.2 i' (by simpa using a) (by simpa using b)
  | @ag c c' l l' _ _ ih1 ih2 =>
    intro vals h
    cases vals with
    | nil => simp [RepL] at h
    | cons y ys =>
      have h0 := h.2 0 (by simp) (by simp)
      simp only [List.getElem_cons_zero] at h0
      have ht := ih2 (vals := ys) ⟨by simpa using h.1, fun i a b => h.2 (i + 1) (by simpa using a) (by simpa using b)⟩
      refine ⟨by simp [ht.1], fun i a b => ?_⟩
      cases i with
      | zero =>
        cases h0 with
        | @ag _ _ _ vs hl hh =>
          have h1 := ih1 (vals := vs) ⟨hl, hh⟩
          exact .ag h1.1 h1.2
      | succ i => exact ht.2 i (by simpa using a) (by simpa using b)

/-- The rows' turn as the callee has written them. -/
theorem wrote_turn {E E' : Env} {w w' : World} (hw : WOk G E w) {js : List (Nat × Nat)} {ins : List LR} {outs : List (List PV)} (hh : HeldL E.R js ins) (hn : (js.map (·.1)).Nodup) (hlo : outs.length = ins.length) (hpl : ∀ c ∈ outs, plain c)
    (hw' : WOk ⟨w, giveM E js, 0, fun k => ((E.give js ins w.heap.size).R k).ver, (E.give js ins w.heap.size).rm, (E.give js ins w.heap.size).rv⟩ E' w')
    (hE : ∀ (i : Nat) (r : LR) (c : List PV), ins[i]? = some r → outs[i]? = some c → E'.R (lent + i) = ⟨1, .sli r.e r.sz false c⟩) {a : Act} (hs : SimE G E s a w) : Sim G (s.wrote js ins outs) a w' := by
  obtain ⟨hlen, hat⟩ := hh.at
  let E2 : Env := { R := wroteF E.R js ins outs, rm := E.rm, rv := E.rv, L := mkL (wroteF E.R js ins outs) E.rm, B := E.B }
  have hin : ∀ k, k ∈ js.map (·.1) → ∃ (i : Nat) (j : Nat × Nat) (r : LR) (c : List PV), js[i]? = some j ∧ ins[i]? = some r ∧ outs[i]? = some c ∧ j.1 = k ∧ E.R k = ⟨j.2, .sli r.e r.sz false r.c⟩ ∧ wroteF E.R js ins outs k = ⟨j.2, .sli r.e r.sz false c⟩ := by
    intro k hk
    obtain ⟨j, hj, rfl⟩ := List.mem_map.1 hk
    obtain ⟨i, hi, rfl⟩ := List.getElem_of_mem hj
    have h1 : js[i]? = some js[i] := List.getElem?_eq_getElem hi
    have h2 : ins[i]? = some ins[i] := List.getElem?_eq_getElem (by omega)
    have h3 : outs[i]? = some outs[i] := List.getElem?_eq_getElem (by omega)
    exact ⟨i, _, _, _, h1, h2, h3, rfl, hat i _ _ h1 h2, wroteF_at hn h1 h2 h3⟩
  have ht : Turn G E E2 w w' (· ∈ js.map (·.1)) := by
    refine ⟨rfl, rfl, fun k hk => ⟨wroteF_not hk, rfl, rfl⟩, fun b hb hD => ?_, fun k b hD hb hnd => ?_, fun k hD => ?_, fun k hD _ hs => ?_, fun k hD _ hs => ?_, fun k hD hs => ?_, fun k k' b hD hD' h1 h2 e1 e2 => ?_, hw'.kept.size, hw'.kept.os, hw'.kept.tape, hw'.kept.output⟩
    · refine hw'.kept.block b hb fun hM => ?_
      obtain ⟨j, hj, hjb⟩ := hM
      have hmem : j.1 ∈ js.map (·.1) := List.mem_map.2 ⟨j, hj, rfl⟩
      obtain ⟨i, j', r, c, _, _, _, _, h5, _⟩ := hin _ hmem
      have := hD j.1 hmem hjb
      rw [h5] at this; cases this
    · obtain ⟨i, j, r, c, _, _, _, _, h5, h6⟩ := hin k hD
      exact .inr ⟨hb, by rw [h5]; rfl, fun _ => by rw [h5]; rfl⟩
    · obtain ⟨i, j, r, c, _, _, _, _, h5, h6⟩ := hin k hD
      show _ ≤ (wroteF E.R js ins outs k).ver
      rw [h5, h6]; exact Nat.le_refl _
    · obtain ⟨i, j, r, c, _, _, _, _, h5, h6⟩ := hin k hD
      exact ⟨by rw [h5]; rfl, rfl⟩
    · obtain ⟨i, j, r, c, _, _, _, _, h5, h6⟩ := hin k hD
      exact ⟨by rw [h5]; rfl, rfl⟩
    · obtain ⟨i, j, r, c, _, _, _, _, h5, h6⟩ := hin k hD
      have := hw.pos k (by rw [h5]; rfl)
      rw [h5] at this
      show 0 < (wroteF E.R js ins outs k).ver
      rw [h6]; exact this
    · obtain ⟨_, _, _, _, _, _, _, _, h5, _⟩ := hin k hD
      obtain ⟨_, _, _, _, _, _, _, _, h5', _⟩ := hin k' hD'
      exact hw.inj k k' b (by rw [h5]; rfl) (by rw [h5']; rfl) e1 e2
  have hrows : ∀ k, k ∈ js.map (·.1) → RowOk w' E2 G.C k := by
    intro k hk
    obtain ⟨i, j, r, c, h1, h2, h3, h4, h5, h6⟩ := hin k hk
    have hrow' := hw'.rows (lent + i)
    unfold RowOk at hrow'
    rw [hE i r c h2 h3] at hrow'
    simp only at hrow'
    have hpin := (hw'.pin (lent + i)).2 (by
      rw [hE i r c h2 h3]
      show 1 = (inR ins (lent + i)).ver
      rw [inR_at h2]) (by rw [hE i r c h2 h3]; rfl)
    obtain ⟨q1, q2⟩ := hpin
    have q1' : E'.rm (lent + i) = E.rm k := by rw [q1]; simp [Env.give, h1, h4]
    have q2' : E'.rv (lent + i) = E.rv k := by rw [q2]; simp [Env.give, h1, h4]
    rw [q1', q2'] at hrow'
    unfold RowOk
    show match (wroteF E.R js ins outs k).kind with | .dead => True | .nil => _ | .box t cells => _ | .sli e sz _ cells => _
    rw [h6]
    rcases hrow' with hr | ⟨b, n, cap, vs, rest, g1, g2, g3, g4, g5, g6, g7, g8, g9⟩
    · exact .inl hr
    · have hnd : (E.R k).kind.nd = true := by rw [h5]; rfl
      exact .inr ⟨b, n, cap, vs, rest, g1, (hw.block g1 hnd).2, g3, g4, g5, g6, g7, g8, plain_rep (hpl c (List.mem_of_getElem? h3)) g9⟩
  have key := ht.sim hs hrows
  have e : ({ s with rw := E2.R } : St) = s.wrote js ins outs := by
    show ({ s with rw := wroteF E.R js ins outs } : St) = _
    rw [hs.rw]; rfl
  exact ⟨_, e ▸ key⟩

theorem callM_sound {o : Oper} {c : Call} {f : Operand} {K : St → Prop} (ho : o.op = .call c) (hc : c.callee = .value f) (hd : ∀ d, o.dst = some d → d < G.n) (hk : callM P s f c.args o.dst K) :
    ∃ s', K s' ∧ Effects P G s o s' := by
  unfold callM at hk
  split at hk
  · rename_i g caps hev
    obtain ⟨js, ins, args, outs, x, ham, hg, hh, hn, hk⟩ := hk
    refine ⟨_, hk, fun a w ⟨E, hs⟩ K' Q hK => ?_⟩
    have hfx := eval_rep hs.slots f
    rw [hev] at hfx
    generalize hvf : a.eval f = vf at hfx
    cases hfx with
    | @clo _ _ _ _ vs hl hh' =>
      obtain ⟨hent, hpi, hlo, hpo, hcall⟩ := ham
      have hh2 : HeldL E.R js ins := by rw [hs.rw]; exact hh
      have hraw : RepL w E 0 (c.args.toList.map s.ev ++ caps) (c.args.toList.map a.eval ++ vs) :=
        RepL.append (RepL.map fun x _ => eval_rep hs.slots x) ⟨hl, hh'⟩
      have hcall := hcall w (giveM E js) (E.give js ins w.heap.size) _ (give_ok hs.wok hh2 hn hpi) rfl (give_rep hh2 w.heap.size hg hraw)
      unfold Oper.wp
      rw [run_call ho hc hvf hent]
      show Calls P g _ w _
      refine hcall.mono fun e w' ⟨he, E', hw', hE'⟩ => ?_
      subst he
      obtain ⟨E2, hs2⟩ := wrote_turn hs.wok hh2 hn hlo hpo hw' hE' hs
      exact hK _ _ ⟨E2, hs2.put hd (.v x)⟩
  · exact hk.elim

end
end Go.Abs
