/- DERIVED by an AI agent. -/
import Derived.Test.YtlapkhmehcnjeaaA4
/- DERIVED by an AI agent. Rows given over to a callee that writes into them. No program in sight. -/
namespace Go.Abs
set_option linter.unusedSimpArgs false
set_option linter.unusedVariables false

/-- A row given over: what its cells are. -/
structure LR where
  e : Nat
  sz : Nat
  c : List PV

def inR (ins : List LR) (k : Nat) : Row := if lent ≤ k then (match ins[k - lent]? with | some r => ⟨1, .sli r.e r.sz false r.c⟩ | none => ⟨0, .dead⟩) else ⟨0, .dead⟩

def plain (c : List PV) : Prop := ∀ p ∈ c, isV p = true

/-- A CONTRACT of a function that writes into rows that it is given: what these are then. -/
def AM (P : Program) (f : FuncId) (args : List PV) (ins : List LR) (outs : List (List PV)) (x : Value) : Prop :=
  Enters P f ∧ (∀ r ∈ ins, plain r.c) ∧ outs.length = ins.length ∧ (∀ c ∈ outs, plain c) ∧
    ∀ (w : World) (M : Nat → Prop) (E : Env) (vals : List Value), WOk ⟨w, M, 0, fun k => (E.R k).ver, E.rm, E.rv⟩ E w → E.R = inR ins → RepL w E 0 args vals →
      Calls P f vals.toArray w fun e w' => e = .returned x ∧ ∃ E', WOk ⟨w, M, 0, fun k => (E.R k).ver, E.rm, E.rv⟩ E' w' ∧
        ∀ (i : Nat) (r : LR) (c : List PV), ins[i]? = some r → outs[i]? = some c → E'.R (lent + i) = ⟨1, .sli r.e r.sz false c⟩

/-- Arguments: plain values, rows given over. -/
inductive GiveL (js : List (Nat × Nat)) : List PV → List PV → Prop
  | nil : GiveL js [] []
  | v {x : Value} {l l' : List PV} : GiveL js l l' → GiveL js (.v x :: l) (.v x :: l')
  | own {k ver : Nat} {l l' : List PV} (i : Nat) : js[i]? = some (k, ver) → GiveL js l l' → GiveL js (.own k ver :: l) (.own (lent + i) 1 :: l')
  | ag {c c' l l' : List PV} : GiveL js c c' → GiveL js l l' → GiveL js (.ag c :: l) (.ag c' :: l')

/-- The rows that are given are the state's own, and live. -/
def HeldL (rw : Nat → Row) : List (Nat × Nat) → List LR → Prop
  | [], [] => True
  | j :: js, r :: ins => rw j.1 = ⟨j.2, .sli r.e r.sz false r.c⟩ ∧ HeldL rw js ins
  | _, _ => False

/-- The rows as they come back. -/
def wroteF (R : Nat → Row) (js : List (Nat × Nat)) (ins : List LR) (outs : List (List PV)) (k : Nat) : Row :=
  match js.findIdx? (fun j => j.1 == k) with
  | some i => (match js[i]?, ins[i]?, outs[i]? with | some j, some r, some c => ⟨j.2, .sli r.e r.sz false c⟩ | _, _, _ => R k)
  | none => R k
def St.wrote (s : St) (js : List (Nat × Nat)) (ins : List LR) (outs : List (List PV)) : St := { s with rw := wroteF s.rw js ins outs }

/-- A call that is given rows. -/
def askM (P : Program) (s : St) (g : FuncId) (raw : List PV) (dst : Option Nat) (K : St → Prop) : Prop :=
  ∃ (js : List (Nat × Nat)) (ins : List LR) (args : List PV) (outs : List (List PV)) (x : Value),
    AM P g args ins outs x ∧ GiveL js raw args ∧ HeldL s.rw js ins ∧ (js.map (·.1)).Nodup ∧ K ((s.wrote js ins outs).put dst (.v x))

def callM (P : Program) (s : St) (f : Operand) (args : Array Operand) (dst : Option Nat) (K : St → Prop) : Prop :=
  match s.ev f with
  | .clo g caps => askM P s g (args.toList.map s.ev ++ caps) dst K
  | _ => False

theorem HeldL.at {rw : Nat → Row} : ∀ {js : List (Nat × Nat)} {ins : List LR}, HeldL rw js ins → js.length = ins.length ∧ ∀ (i : Nat) (j : Nat × Nat) (r : LR), js[i]? = some j → ins[i]? = some r → rw j.1 = ⟨j.2, .sli r.e r.sz false r.c⟩ := by
  intro js
  induction js with
  | nil => intro ins h; cases ins with
    | nil => exact ⟨rfl, fun i j r h => by simp at h⟩
    | cons _ _ => exact h.elim
  | cons j js ih =>
    intro ins h
    cases ins with
    | nil => exact h.elim
    | cons r ins =>
      obtain ⟨h1, h2⟩ := h
      obtain ⟨a, b⟩ := ih h2
      refine ⟨by simp [a], fun i j' r' hj hr => ?_⟩
      cases i with
      | zero => simp at hj hr; subst hj; subst hr; exact h1
      | succ i => exact b i j' r' (by simpa using hj) (by simpa using hr)

theorem wroteF_at {R : Nat → Row} {js : List (Nat × Nat)} {ins : List LR} {outs : List (List PV)} (hn : (js.map (·.1)).Nodup) {i : Nat} {j : Nat × Nat} {r : LR} {c : List PV} (hj : js[i]? = some j) (hr : ins[i]? = some r) (hc : outs[i]? = some c) :
    wroteF R js ins outs j.1 = ⟨j.2, .sli r.e r.sz false c⟩ := by
  have hi : i < js.length := (List.getElem?_eq_some_iff.1 hj).1
  have hji : js[i] = j := (List.getElem?_eq_some_iff.1 hj).2
  have : js.findIdx? (fun x => x.1 == j.1) = some i := by
    rw [List.findIdx?_eq_some_iff_getElem]
    refine ⟨hi, by simp [hji], fun k hk => ?_⟩
    have hp := List.pairwise_iff_getElem.1 hn k i (by simp; omega) (by simp; omega) hk
    simp only [List.getElem_map, hji] at hp
    simpa using hp
  unfold wroteF
  rw [this]
  simp only [hj, hr, hc]

theorem wroteF_not {R : Nat → Row} {js : List (Nat × Nat)} {ins : List LR} {outs : List (List PV)} {k : Nat} (h : k ∉ js.map (·.1)) : wroteF R js ins outs k = R k := by
  have : js.findIdx? (fun x => x.1 == k) = none := by
    rw [List.findIdx?_eq_none_iff]
    intro x hx
    have : x.1 ≠ k := fun e => h (List.mem_map.2 ⟨x, hx, e⟩)
    simpa using this
  unfold wroteF
  rw [this]

theorem plain_rep {w w' : World} {E E' : Env} {lo lo' : Nat} {c : List PV} {vs : List Value} (h : plain c) (hr : RepL w E lo c vs) : RepL w' E' lo' c vs :=
  ⟨hr.1, fun i a b => (isV_rep (h _ (List.getElem_mem a)) (hr.2 i a b)).1⟩

section
variable {P : Program} {G : Ghost} {s : St}

/-- The callee's ghost. -/
def Env.give (E : Env) (js : List (Nat × Nat)) (ins : List LR) (B : Nat) : Env :=
  let R := inR ins
  let rm := fun k => if lent ≤ k then (js[k - lent]?).bind fun j => E.rm j.1 else none
  { R := R, rm := rm, rv := fun k => if lent ≤ k then (match js[k - lent]? with | some j => E.rv j.1 | none => default) else default, L := mkL R rm, B := B }

theorem inR_nd {ins : List LR} {k : Nat} (h : (inR ins k).kind.nd = true) : lent ≤ k ∧ ∃ r, ins[k - lent]? = some r ∧ inR ins k = ⟨1, .sli r.e r.sz false r.c⟩ := by
  unfold inR at h ⊢
  by_cases hk : lent ≤ k
  · rw [if_pos hk] at h ⊢
    split at h
    · rename_i r hr; exact ⟨hk, r, hr, rfl⟩
    · cases h
  · rw [if_neg hk] at h; cases h
theorem inR_at {ins : List LR} {i : Nat} {r : LR} (h : ins[i]? = some r) : inR ins (lent + i) = ⟨1, .sli r.e r.sz false r.c⟩ := by
  unfold inR
  rw [if_pos (by omega), Nat.add_sub_cancel_left, h]

def giveM (E : Env) (js : List (Nat × Nat)) (b : Nat) : Prop := ∃ j ∈ js, E.rm j.1 = some b

theorem give_ok {E : Env} {w : World} (hw : WOk G E w) {js : List (Nat × Nat)} {ins : List LR} (hh : HeldL E.R js ins) (hn : (js.map (·.1)).Nodup) (hp : ∀ r ∈ ins, plain r.c) :
    WOk ⟨w, giveM E js, 0, fun k => ((E.give js ins w.heap.size).R k).ver, (E.give js ins w.heap.size).rm, (E.give js ins w.heap.size).rv⟩ (E.give js ins w.heap.size) w := by
  obtain ⟨hlen, hat⟩ := hh.at
  have key0 : ∀ (n : Nat) (r : LR), ins[n]? = some r → ∃ j, js[n]? = some j ∧ E.R j.1 = ⟨j.2, .sli r.e r.sz false r.c⟩ := fun n r hr => by
    have hi : n < js.length := by rw [hlen]; exact (List.getElem?_eq_some_iff.1 hr).1
    exact ⟨_, List.getElem?_eq_getElem hi, hat _ _ _ (List.getElem?_eq_getElem hi) hr⟩
  have key : ∀ (k : Nat) (r : LR), lent ≤ k → ins[k - lent]? = some r → ∃ j, js[k - lent]? = some j ∧ E.R j.1 = ⟨j.2, .sli r.e r.sz false r.c⟩ := fun k r _ hr => key0 _ r hr
  refine ⟨fun k => ?_, fun k k' b n1 n2 e1 e2 => ?_, fun b => Iff.rfl, fun k h => ?_, rfl, ⟨rfl, rfl, rfl, Nat.le_refl _, fun _ _ _ => rfl⟩, fun k => ⟨Nat.le_refl _, fun _ _ => ⟨rfl, rfl⟩⟩⟩
  · show RowOk w (E.give js ins w.heap.size) _ k
    unfold RowOk
    show match (inR ins k).kind with | .dead => True | .nil => _ | .box t cells => _ | .sli e sz _ cells => _
    cases hd : (inR ins k).kind with
    | dead => trivial
    | _ =>
      obtain ⟨hk, r, hr, he⟩ := inR_nd (ins := ins) (k := k) (by rw [hd]; rfl)
      rw [he] at hd
      cases hd
      all_goals
        obtain ⟨j, hj, hrow⟩ := key k r hk hr
        have h0 := hw.rows j.1
        unfold RowOk at h0
        rw [hrow] at h0
        simp only at h0
        have em : (E.give js ins w.heap.size).rm k = E.rm j.1 := by simp [Env.give, hk, hj]
        have ev : (E.give js ins w.heap.size).rv k = E.rv j.1 := by simp [Env.give, hk, hj]
        rw [em, ev]
        rcases h0 with h0 | ⟨b, n, cap, vs, rest, h1, h2, h3, h4, h5, h6, h7, h8, h9⟩
        · exact .inl h0
        · exact .inr ⟨b, n, cap, vs, rest, h1, .inr ⟨hk, j, List.mem_of_getElem? hj, h1⟩, h3, h4, h5, h6, h7, h8, plain_rep (hp r (List.mem_of_getElem? hr)) h9⟩
  · obtain ⟨hk, r, hr, _⟩ := inR_nd (ins := ins) (k := k) n1
    obtain ⟨hk', r', hr', _⟩ := inR_nd (ins := ins) (k := k') n2
    obtain ⟨j, hj, hrow⟩ := key k r hk hr
    obtain ⟨j', hj', hrow'⟩ := key k' r' hk' hr'
    have e1' : E.rm j.1 = some b := by simpa [Env.give, hk, hj] using e1
    have e2' : E.rm j'.1 = some b := by simpa [Env.give, hk', hj'] using e2
    have := hw.inj j.1 j'.1 b (by rw [hrow]; rfl) (by rw [hrow']; rfl) e1' e2'
    have hi := (List.getElem?_eq_some_iff.1 hj)
    have hi' := (List.getElem?_eq_some_iff.1 hj')
    obtain ⟨a1, a2⟩ := hi
    obtain ⟨b1, b2⟩ := hi'
    have : k - lent = k' - lent := (List.getElem_inj (h₀ := by simp; omega) (h₁ := by simp; omega) hn).1 (by simp [a2, b2, this])
    omega
  · obtain ⟨hk, r, hr, he⟩ := inR_nd (ins := ins) (k := k) h
    show 0 < (inR ins k).ver
    rw [he]; exact Nat.one_pos

theorem give_rep {E : Env} {w : World} {js : List (Nat × Nat)} {ins : List LR} (hh : HeldL E.R js ins) (B : Nat) {raw args : List PV} (hg : GiveL js raw args) : ∀ {vals : List Value}, RepL w E 0 raw vals → RepL w (E.give js ins B) 0 args vals := by
  obtain ⟨hlen, hat⟩ := hh.at
  induction hg with
  | nil => intro vals h; exact ⟨h.1, fun i a => absurd a (by simp)⟩
  | @v x l l' _ ih =>
    intro vals h
    cases vals with
    | nil => simp [RepL] at h
    | cons y ys =>
      have h0 := h.2 0 (by simp) (by simp)
      simp only [List.getElem_cons_zero] at h0
      have := h0.v_eq; subst this
      have ht := ih (vals := ys) ⟨by simpa using h.1, fun i a b => h.2 (i + 1) (by simpa using a) (by simpa using b)⟩
      refine ⟨by simp [ht.1], fun i a b => ?_⟩
      cases i with
      | zero => exact .v _
      | succ i => exact ht.2 i (by simpa using a) (by simpa using b)
  | @own k ver l l' i hj _ ih =>
    intro vals h
    cases vals with
    | nil => simp [RepL] at h
    | cons y ys =>
      have h0 := h.2 0 (by simp) (by simp)
      simp only [List.getElem_cons_zero] at h0
      have ht := ih (vals := ys) ⟨by simpa using h.1, fun i a b => h.2 (i + 1) (by simpa using a) (by simpa using b)⟩
      refine ⟨by simp [ht.1], fun i' a b => ?_⟩
      cases i' with
      | zero =>
        have hi : i < ins.length := by rw [← hlen]; exact (List.getElem?_eq_some_iff.1 hj).1
        have hr : ins[i]? = some ins[i] := List.getElem?_eq_getElem hi
        have hrow := hat i _ _ hj hr
        cases h0 with
        | own hv hx =>
          refine .own ?_ fun _ _ => ?_
          · show 1 ≤ (inR ins (lent + i)).ver
            rw [inR_at hr]; exact Nat.le_refl _
          · have hx' := hx (by rw [hrow]) (by rw [hrow]; rfl)
            show y = _
            rw [hx']
            simp [Env.give, hj]
      | succ i' => exact ht.2 i' (by simpa using a) (by simpa using b)
  | @ag c c' l l' _ _ ih1 ih2 =>
    intro vals h
    cases vals with
    | nil => simp [RepL] at h
    | cons y ys =>
      have h0 := h.2 0 (by simp) (by simp)
      simp only [List.getElem_cons_zero] at h0
      have ht := ih2 (vals := ys) ⟨by simpa using h.1, fun i a b => h.2 (i + 1) (by simpa using a) (by simpa using b)⟩
      refine ⟨by simp [ht.1], fun i a b => ?_⟩
      cases i with
      | zero =>
        cases h0 with
        | @ag _ _ _ vs hl hh =>
          have h1 := ih1 (vals := vs) ⟨hl, hh⟩
          exact .ag h1.1 h1.2
      | succ i => exact ht.2 i (by simpa using a) (by simpa using b)

/-- The rows' turn as the callee has written them. -/
theorem wrote_turn {E E' : Env} {w w' : World} (hw : WOk G E w) {js : List (Nat × Nat)} {ins : List LR} {outs : List (List PV)} (hh : HeldL E.R js ins) (hn : (js.map (·.1)).Nodup) (hlo : outs.length = ins.length) (hpl : ∀ c ∈ outs, plain c)
    (hw' : WOk ⟨w, giveM E js, 0, fun k => ((E.give js ins w.heap.size).R k).ver, (E.give js ins w.heap.size).rm, (E.give js ins w.heap.size).rv⟩ E' w')
    (hE : ∀ (i : Nat) (r : LR) (c : List PV), ins[i]? = some r → outs[i]? = some c → E'.R (lent + i) = ⟨1, .sli r.e r.sz false c⟩) {a : Act} (hs : SimE G E s a w) : Sim G (s.wrote js ins outs) a w' := by
  obtain ⟨hlen, hat⟩ := hh.at
  let E2 : Env := { R := wroteF E.R js ins outs, rm := E.rm, rv := E.rv, L := mkL (wroteF E.R js ins outs) E.rm, B := E.B }
  have hin : ∀ k, k ∈ js.map (·.1) → ∃ (i : Nat) (j : Nat × Nat) (r : LR) (c : List PV), js[i]? = some j ∧ ins[i]? = some r ∧ outs[i]? = some c ∧ j.1 = k ∧ E.R k = ⟨j.2, .sli r.e r.sz false r.c⟩ ∧ wroteF E.R js ins outs k = ⟨j.2, .sli r.e r.sz false c⟩ := by
    intro k hk
    obtain ⟨j, hj, rfl⟩ := List.mem_map.1 hk
    obtain ⟨i, hi, rfl⟩ := List.getElem_of_mem hj
    have h1 : js[i]? = some js[i] := List.getElem?_eq_getElem hi
    have h2 : ins[i]? = some ins[i] := List.getElem?_eq_getElem (by omega)
    have h3 : outs[i]? = some outs[i] := List.getElem?_eq_getElem (by omega)
    exact ⟨i, _, _, _, h1, h2, h3, rfl, hat i _ _ h1 h2, wroteF_at hn h1 h2 h3⟩
  have ht : Turn G E E2 w w' (· ∈ js.map (·.1)) := by
    refine ⟨rfl, rfl, fun k hk => ⟨wroteF_not hk, rfl, rfl⟩, fun b hb hD => ?_, fun k b hD hb hnd => ?_, fun k hD => ?_, fun k hD _ hs => ?_, fun k hD _ hs => ?_, fun k hD hs => ?_, fun k k' b hD hD' h1 h2 e1 e2 => ?_, hw'.kept.size, hw'.kept.os, hw'.kept.tape, hw'.kept.output⟩
    · refine hw'.kept.block b hb fun hM => ?_
      obtain ⟨j, hj, hjb⟩ := hM
      have hmem : j.1 ∈ js.map (·.1) := List.mem_map.2 ⟨j, hj, rfl⟩
      obtain ⟨i, j', r, c, _, _, _, _, h5, _⟩ := hin _ hmem
      have := hD j.1 hmem hjb
      rw [h5] at this; cases this
    · obtain ⟨i, j, r, c, _, _, _, _, h5, h6⟩ := hin k hD
      exact .inr ⟨hb, by rw [h5]; rfl, fun _ => by rw [h5]; rfl⟩
    · obtain ⟨i, j, r, c, _, _, _, _, h5, h6⟩ := hin k hD
      show _ ≤ (wroteF E.R js ins outs k).ver
      rw [h5, h6]; exact Nat.le_refl _
    · obtain ⟨i, j, r, c, _, _, _, _, h5, h6⟩ := hin k hD
      exact ⟨by rw [h5]; rfl, rfl⟩
    · obtain ⟨i, j, r, c, _, _, _, _, h5, h6⟩ := hin k hD
      exact ⟨by rw [h5]; rfl, rfl⟩
    · obtain ⟨i, j, r, c, _, _, _, _, h5, h6⟩ := hin k hD
      have := hw.pos k (by rw [h5]; rfl)
      rw [h5] at this
      show 0 < (wroteF E.R js ins outs k).ver
      rw [h6]; exact this
    · obtain ⟨_, _, _, _, _, _, _, _, h5, _⟩ := hin k hD
      obtain ⟨_, _, _, _, _, _, _, _, h5', _⟩ := hin k' hD'
      exact hw.inj k k' b (by rw [h5]; rfl) (by rw [h5']; rfl) e1 e2
  have hrows : ∀ k, k ∈ js.map (·.1) → RowOk w' E2 G.C k := by
    intro k hk
    obtain ⟨i, j, r, c, h1, h2, h3, h4, h5, h6⟩ := hin k hk
    have hrow' := hw'.rows (lent + i)
    unfold RowOk at hrow'
    rw [hE i r c h2 h3] at hrow'
    simp only at hrow'
    have hpin := (hw'.pin (lent + i)).2 (by
      rw [hE i r c h2 h3]
      show 1 = (inR ins (lent + i)).ver
      rw [inR_at h2]) (by rw [hE i r c h2 h3]; rfl)
    obtain ⟨q1, q2⟩ := hpin
    have q1' : E'.rm (lent + i) = E.rm k := by rw [q1]; simp [Env.give, h1, h4]
    have q2' : E'.rv (lent + i) = E.rv k := by rw [q2]; simp [Env.give, h1, h4]
    rw [q1', q2'] at hrow'
    unfold RowOk
    show match (wroteF E.R js ins outs k).kind with | .dead => True | .nil => _ | .box t cells => _ | .sli e sz _ cells => _
    rw [h6]
    rcases hrow' with hr | ⟨b, n, cap, vs, rest, g1, g2, g3, g4, g5, g6, g7, g8, g9⟩
    · exact .inl hr
    · have hnd : (E.R k).kind.nd = true := by rw [h5]; rfl
      exact .inr ⟨b, n, cap, vs, rest, g1, (hw.block g1 hnd).2, g3, g4, g5, g6, g7, g8, plain_rep (hpl c (List.mem_of_getElem? h3)) g9⟩
  have key := ht.sim hs hrows
  have e : ({ s with rw := E2.R } : St) = s.wrote js ins outs := by
    show ({ s with rw := wroteF E.R js ins outs } : St) = _
    rw [hs.rw]; rfl
  exact ⟨_, e ▸ key⟩

theorem callM_sound {o : Oper} {c : Call} {f : Operand} {K : St → Prop} (ho : o.op = .call c) (hc : c.callee = .value f) (hd : ∀ d, o.dst = some d → d < G.n) (hk : callM P s f c.args o.dst K) :
    ∃ s', K s' ∧ Effects P G s o s' := by
  unfold callM at hk
  split at hk
  · rename_i g caps hev
    obtain ⟨js, ins, args, outs, x, ham, hg, hh, hn, hk⟩ := hk
    refine ⟨_, hk, fun a w ⟨E, hs⟩ K' Q hK => ?_⟩
    have hfx := eval_rep hs.slots f
    rw [hev] at hfx
    generalize hvf : a.eval f = vf at hfx
    cases hfx with
    | @clo _ _ _ _ vs hl hh' =>
      obtain ⟨hent, hpi, hlo, hpo, hcall⟩ := ham
      have hh2 : HeldL E.R js ins := by rw [hs.rw]; exact hh
      have hraw : RepL w E 0 (c.args.toList.map s.ev ++ caps) (c.args.toList.map a.eval ++ vs) :=
        RepL.append (RepL.map fun x _ => eval_rep hs.slots x) ⟨hl, hh'⟩
      have hcall := hcall w (giveM E js) (E.give js ins w.heap.size) _ (give_ok hs.wok hh2 hn hpi) rfl (give_rep hh2 w.heap.size hg hraw)
      unfold Oper.wp
      rw [run_call ho hc hvf hent]
      show Calls P g _ w _
      refine hcall.mono fun e w' ⟨he, E', hw', hE'⟩ => ?_
      subst he
      obtain ⟨E2, hs2⟩ := wrote_turn hs.wok hh2 hn hlo hpo hw' hE' hs
      exact hK _ _ ⟨E2, hs2.put hd (.v x)⟩
  · exact hk.elim

end
end Go.Abs

/- DERIVED by an AI agent. Rows written no more; all operations together; a region in the order of the text. No program in sight. -/
namespace Go.Abs
set_option linter.unusedSimpArgs false

/-- A state that says less, or says it otherwise. -/
def Wk (s s' : St) : Prop := ∀ (G : Ghost) (a : Act) (w : World), Sim G s a w → Sim G s' a w
theorem Wk.refl (s : St) : Wk s s := fun _ _ _ h => h
theorem Wk.trans {a b c : St} (h : Wk a b) (k : Wk b c) : Wk a c := fun G x w hs => k G x w (h G x w hs)

theorem frz_frz (r : Row) : frz r = r ∨ ∃ e sz fz c, r.kind = .sli e sz fz c := by
  unfold frz; split
  · rename_i h; exact .inr ⟨_, _, _, _, h⟩
  · exact .inl rfl

theorem Wk.freeze (s : St) (ks : List Nat) : Wk s (s.freeze ks) := by
  intro G a w ⟨E, hs⟩
  have ht : Turn G E { R := frzF E.R ks, rm := E.rm, rv := E.rv, L := mkL (frzF E.R ks) E.rm, B := E.B } w w (· ∈ ks) := by
    have at_ : ∀ k, k ∈ ks → frzF E.R ks k = frz (E.R k) := fun k hk => by simp [frzF, hk]
    refine ⟨rfl, rfl, fun k hk => ⟨by simp [frzF, hk], rfl, rfl⟩, fun _ _ _ => rfl, fun k b hk hb hn => .inr ⟨hb, ?_, fun hl => ?_⟩, fun k hk => ?_, fun k hk _ h => ⟨?_, rfl⟩, fun k hk _ h => ⟨?_, rfl⟩, fun k hk hn => ?_, fun k k' b hk hk' hn hn' hb hb' => ?_, Nat.le_refl _, rfl, rfl, rfl⟩
    · simpa [at_ k hk, frz_nd] using hn
    · exact frz_live _ (by simpa [at_ k hk] using hl)
    · simp [at_ k hk, frz_ver]
    · simpa [at_ k hk, frz_slice] using h
    · simpa [at_ k hk, frz_nd] using h
    · have := hs.wok.pos k (by simpa [at_ k hk, frz_nd] using hn)
      simpa [at_ k hk, frz_ver] using this
    · exact hs.wok.inj k k' b (by simpa [at_ k hk, frz_nd] using hn) (by simpa [at_ k' hk', frz_nd] using hn') hb hb'
  have hl := ht.lasts hs.wok
  have hrows : ∀ k, k ∈ ks → RowOk w { R := frzF E.R ks, rm := E.rm, rv := E.rv, L := mkL (frzF E.R ks) E.rm, B := E.B } G.C k := by
    intro k hk
    have hr := hs.wok.rows k
    have hf : frzF E.R ks k = frz (E.R k) := by simp [frzF, hk]
    unfold RowOk at hr ⊢
    simp only [hf]
    cases hkd : (E.R k).kind with
    | dead => simp [frz, hkd]
    | nil => simp only [hkd, frz] at hr ⊢; exact hr
    | box t cells =>
      simp only [hkd, frz] at hr ⊢
      obtain ⟨b, vs, h1, h2, h3, h4⟩ := hr
      exact ⟨b, vs, h1, h2, h3, h4.mono hl (Nat.le_refl _)⟩
    | sli e sz fz' cells =>
      simp only [hkd, frz] at hr ⊢
      rcases hr with hr | ⟨b, n, cap, vs, rest, h1, h2, h3, h4, h5, h6, h7, h8, h9⟩
      · exact .inl hr
      · exact .inr ⟨b, n, cap, vs, rest, h1, h2, h3, h4, h5, h6, h7, h8, h9.mono hl.bare (Nat.le_refl _)⟩
  have key := ht.sim hs hrows
  have e : ({ s with rw := frzF E.R ks } : St) = s.freeze ks := by rw [hs.rw]; rfl
  exact ⟨_, e ▸ key⟩

/-- An operation: what it asks of the state, what state it leaves. -/
def opK (P : Program) (T : Tab) (s : St) (o : Oper) (K : St → Prop) : Prop :=
  match o.op with
  | .assign (.const c) =>
    (match isNil c with
    | true => (match o.dst with | some d => K (newSt s d (match (T o.type).k with | .sli e => .sli e (T e).size false [] | _ => .nil) fun v => .own d v) | none => False)
    | false => K (s.put o.dst (constPV c)))
  | .alloc t => (match o.dst with | some d => 0 < (T t).size ∧ K (newSt s d (.box t ((T t).zero.map PV.v)) fun v => .ref d v 0) | none => False)
  | .box t x => (match o.dst with | some d => cellsK s.rw (s.ev x) fun c => K (newSt s d (.box t c) fun v => .ref d v 0) | none => False)
  | .makeSlice t l c =>
    (match o.dst, (T t).k, s.ev l, s.ev c with
    | some d, .sli e, .v (.int _ nl), .v (.int _ nc) => 0 < (T t).size ∧ (T e).size = 1 ∧ (match (T e).zero with
        | [z] => 0 ≤ nl ∧ nl ≤ nc ∧ ((T e).bytes : Int) * nc ≤ 281474976710656 ∧ nc ≤ 9223372036854775807 ∧ K (newSt s d (.sli e 1 false (List.replicate nl.toNat (.v z))) fun v => .own d v)
        | _ => False)
    | _, _, _, _ => False)
  | .buildSlice t n parts => (match o.dst with | some d => buildK T s d t n parts K | none => False)
  | .store t ad x => o.dst = none ∧ storeK T s t (s.ev ad) (s.ev x) K
  | .build t parts => buildVK T s.rw s.ev t parts fun p => K (s.put o.dst p)
  | .slice _ x _ _ _ =>
    (match s.ev x with
    | .own k _ => (match (s.rw k).kind with
        | .sli _ _ false _ => valK T (s.freeze [k]).rw s.ev o.op fun p => K ((s.freeze [k]).put o.dst p)
        | _ => valK T s.rw s.ev o.op fun p => K (s.put o.dst p))
    | _ => valK T s.rw s.ev o.op fun p => K (s.put o.dst p))
  | .call c =>
    (match c.callee with
    | .builtin .append => (match c.args, c.argTypes, o.dst with | ⟨[x, y]⟩, ⟨[t, t2]⟩, some d => appendK T s d t t2 (s.ev x) (s.ev y) K | _, _, _ => False)
    | .value f => (match o.dst with | some d => callK P s.rw s.ev f c.args fun rv => K (adoptSt s d rv) | none => callK P s.rw s.ev f c.args fun _ => K s) ∨ callM P s f c.args o.dst K
    | _ => valK T s.rw s.ev o.op fun p => K (s.put o.dst p))
  | _ => valK T s.rw s.ev o.op fun p => K (s.put o.dst p)

section
variable {P : Program} {T : Tab} {G : Ghost} {s : St} {o : Oper}

theorem Yields.effects {p : PV} (h : Yields P G s o p) (hd : ∀ d, o.dst = some d → d < G.n) : Effects P G s o (s.put o.dst p) := by
  intro a w ⟨E, hs⟩ K Q hK
  exact h E a w hs.rw hs.wok (fun x _ => eval_rep hs.slots x) K Q fun v w' hx hv => hK _ _ ⟨E, (hs.ext hx).put hd hv⟩

theorem val_eff (hT : T.Ok P) {K : St → Prop} (hd : ∀ d, o.dst = some d → d < G.n) (hk : valK T s.rw s.ev o.op fun p => K (s.put o.dst p)) : ∃ s', K s' ∧ Effects P G s o s' := by
  obtain ⟨p, hp, hy⟩ := val_sound (G := G) hT hk
  exact ⟨_, hp, hy.effects hd⟩

theorem Effects.wk {s1 s' : St} (hw : Wk s s1) (h : Effects P G s1 o s') : Effects P G s o s' := fun a w hs => h a w (hw G a w hs)

theorem op_sound (hT : T.Ok P) {K : St → Prop} (hd : ∀ d, o.dst = some d → d < G.n) (hk : opK P T s o K) : ∃ s', K s' ∧ Effects P G s o s' := by
  unfold opK at hk
  split at hk
  · rename_i c ho
    split at hk
    · rename_i hn
      split at hk
      · rename_i d hdst
        refine nil_sound ?_ ho hdst (hd d hdst) hn hk
        split
        · exact .inr ⟨_, _, rfl⟩
        · exact .inl rfl
      · exact hk.elim
    · exact val_eff hT hd (by rw [ho]; exact hk)
  · rename_i t ho
    split at hk
    · rename_i d hdst
      exact alloc_sound hT ho hdst (hd d hdst) hk
    · exact hk.elim
  · rename_i t x ho
    split at hk
    · rename_i d hdst
      exact box_sound ho hdst (hd d hdst) hk
    · exact hk.elim
  · rename_i t l c ho
    split at hk
    · rename_i hdst hk1 hl hc
      obtain ⟨h1, h2, hk⟩ := hk
      split at hk
      · rename_i z hz
        obtain ⟨h3, h4, h5, h6, hk⟩ := hk
        exact make_sound hT ho hdst (hd _ hdst) h1 hk1 hl hc h2 hz h3 h4 h5 h6 hk
      · exact hk.elim
    · exact hk.elim
  · rename_i t n parts ho
    split at hk
    · rename_i d hdst
      exact build_sound hT ho hdst (hd d hdst) hk
    · exact hk.elim
  · rename_i t ad x ho
    exact store_sound hT ho hk.1 hk.2
  · rename_i t parts ho
    obtain ⟨p, hp, hy⟩ := buildV_sound (G := G) hT ho hk
    exact ⟨_, hp, hy.effects hd⟩
  · rename_i t x lo hi mx ho
    split at hk
    · rename_i k ver hev
      split at hk
      · have hk' : valK T (s.freeze [k]).rw (s.freeze [k]).ev o.op fun p => K ((s.freeze [k]).put o.dst p) := hk
        obtain ⟨s', h1, h2⟩ := val_eff (G := G) hT hd hk'
        exact ⟨s', h1, h2.wk (Wk.freeze s [k])⟩
      · exact val_eff hT hd hk
    · exact val_eff hT hd hk
  · rename_i c ho
    split at hk
    · rename_i hc
      split at hk
      · rename_i x y t t2 d ha ht hdst
        refine append_sound hT (x := x) (y := y) ?_ hdst (hd d hdst) hk
        rw [ho]
        obtain ⟨c1, c2, c3⟩ := c
        simp only at hc ha ht
        rw [hc, ha, ht]
      · exact hk.elim
    · rename_i f hc
      rcases hk with hk | hk
      case inr => exact callM_sound ho hc hd hk
      split at hk
      · rename_i d hdst
        exact call_sound ho hc hdst (hd d hdst) hk
      · rename_i hdst
        obtain ⟨rv, hk, h⟩ := call_wp (G := G) ho hc hk
        refine ⟨_, hk, fun a w ⟨E, hs⟩ K' Q hK => h E a w hs.rw hs.wok (fun x _ => eval_rep hs.slots x) K' Q fun v w' lv hx _ _ => ?_⟩
        rw [hdst]
        exact hK _ _ ⟨E, hs.ext hx⟩
    · exact val_eff hT hd hk
  · exact val_eff hT hd hk

/-- A slice that is held against nil: false where cells stand, either where none. -/
def nilCmpK (T : Tab) (rw : Nat → Row) (t : TypeId) (x : PV) (K : Bool → Prop) : Prop :=
  0 < (T t).size ∧ match (T t).k with
  | .sli _ => slK rw x fun _ _ c => K false ∧ (c = [] → K true)
  | _ => False

/-- An operation, the test for nil among them. -/
def op2K (P : Program) (T : Tab) (s : St) (o : Oper) (K : St → Prop) : Prop :=
  match o.op with
  | .binOp .eql t x (.const (.slice none 0 0)) _ => nilCmpK T s.rw t (s.ev x) fun b => K (s.put o.dst (.v (.bool b)))
  | .binOp .neq t x (.const (.slice none 0 0)) _ => nilCmpK T s.rw t (s.ev x) fun b => K (s.put o.dst (.v (.bool !b)))
  | _ => opK P T s o K

theorem eqIn_slice_nil {P : Program} (w : World) (d : Nat) {t e : TypeId} (a : Option Addr) (n c n' c' : Nat) (h : P.underlying t = some (.slice e)) :
    (Op.equalIn (d + 1) t (.slice a n c) (.slice none n' c')).run P w = .ok a.isNone w := by
  cases a <;> simp [Op.equalIn, run_underlying h]
theorem eq_slice_nil {P : Program} (w : World) {t e : TypeId} (a : Option Addr) (n c n' c' : Nat) (h : P.underlying t = some (.slice e)) :
    (Op.equal t (.slice a n c) (.slice none n' c')).run P w = .ok a.isNone w := eqIn_slice_nil w 9999 a n c n' c' h

theorem nilCmp_sound (hT : T.Ok P) {t : TypeId} {x : PV} {K : Bool → Prop} (hk : nilCmpK T s.rw t x K) {E : Env} {w : World} (hR : E.R = s.rw) (hw : WOk G E w) {v : Value} (hp : Rep w E 0 x v) :
    ∃ b, K b ∧ (Op.equal t v (.slice none 0 0)).run P w = .ok b w ∧ ∃ a l c, v = .slice a l c := by
  obtain ⟨hz, hk⟩ := hk
  split at hk
  · rename_i e he
    have hu := (hT t hz).k
    rw [he] at hu
    obtain ⟨fr, sz, c, ⟨h1, h2⟩, a, len, cap, cs, rfl, hl, hc, hm, hcell⟩ := slK_sound hk hR hw hp
    have hu' : P.underlying t = some (.slice e) := hu
    cases a with
    | some b => exact ⟨false, h1, eq_slice_nil w _ _ _ _ _ hu', _, _, _, rfl⟩
    | none =>
      have : c = [] := by
        cases c with
        | nil => rfl
        | cons p ps => obtain ⟨b, o, h, _⟩ := hcell 0 (by simp); cases h
      exact ⟨true, h2 this, eq_slice_nil w _ _ _ _ _ hu', _, _, _, rfl⟩
  · exact hk.elim

theorem op2_sound (hT : T.Ok P) {K : St → Prop} (hd : ∀ d, o.dst = some d → d < G.n) (hk : op2K P T s o K) {a : Act} {w : World} (hs : Sim G s a w) {K' : Act → World → Prop} {Q : Exit → Act → World → Prop}
    (hK : ∀ s' a' w', K s' → Sim G s' a' w' → K' a' w') : o.wp P a w K' Q := by
  unfold op2K at hk
  split at hk
  · rename_i t x t2 ho
    obtain ⟨E, hs⟩ := hs
    obtain ⟨b, hb, hrun, a1, l1, c1, hv⟩ := nilCmp_sound (G := G) hT hk hs.rw hs.wok (eval_rep hs.slots x)
    refine wp_of_value (v := .bool b) (w' := w) ?_ (hK _ _ _ hb ⟨E, hs.put hd (.v _)⟩)
    have ec : a.eval (.const (.slice none 0 0)) = .slice none 0 0 := rfl
    rw [hv] at hrun
    simp [execOp, ho, hv, ec, eqGuard, binOp, hrun]
  · rename_i t x t2 ho
    obtain ⟨E, hs⟩ := hs
    obtain ⟨b, hb, hrun, a1, l1, c1, hv⟩ := nilCmp_sound (G := G) hT hk hs.rw hs.wok (eval_rep hs.slots x)
    refine wp_of_value (v := .bool !b) (w' := w) ?_ (hK _ _ _ hb ⟨E, hs.put hd (.v _)⟩)
    have ec : a.eval (.const (.slice none 0 0)) = .slice none 0 0 := rfl
    rw [hv] at hrun
    simp [execOp, ho, hv, ec, eqGuard, binOp, hrun]
  · obtain ⟨s', hk2, he⟩ := op_sound (G := G) hT hd hk
    exact he a w hs _ _ fun a' w' h' => hK s' a' w' hk2 h'

end

/-! ### a region in the order of the text -/

/-- An operation under its guard. -/
def guardK (ops : Array Oper) (s : St) (o : Oper) (K1 K2 : St → Prop) : Prop :=
  match o.guard with
  | none => K1 s
  | some (j, want) =>
    match (ops[j]?).bind (·.dst) with
    | some d => (match s.sl d with | .v (.bool b) => (b = want → K1 (s.put (some d) (.v (.bool want)))) ∧ (b = !want → K2 ((s.put (some d) (.v (.bool !want))).put o.dst (.v undef))) | .v (.tuple _) => K2 (s.put o.dst (.v undef)) | _ => False)
    | none => False

def opsK (P : Program) (T : Tab) (ops : Array Oper) : List Oper → St → (St → Prop) → Prop
  | [], s, K => K s
  | o :: os, s, K => guardK ops s o (fun s1 => op2K P T s1 o fun s2 => opsK P T ops os s2 K) (fun s2 => opsK P T ops os s2 K)

theorem put_self {G : Ghost} {s : St} {d : Nat} {p : PV} {a : Act} {w : World} (h : s.sl d = p) (hs : Sim G s a w) : Sim G (s.put (some d) p) a w := by
  obtain ⟨E, hs⟩ := hs
  refine ⟨E, hs.rw, hs.wok, hs.size, hs.defers, fun i => ?_⟩
  simp only [St.put]
  by_cases hi : i = d
  · subst hi; rw [if_pos rfl, ← h]; exact hs.slots i
  · rw [if_neg hi]; exact hs.slots i

theorem put_junk {G : Ghost} {s : St} {dst : Option Nat} {a : Act} {w : World} (hd : ∀ d, dst = some d → d < G.n) (hs : Sim G s a w) : Sim G (s.put dst (.v undef)) (a.put dst undef) w := by
  obtain ⟨E, hs⟩ := hs
  exact ⟨E, hs.put hd (.v undef)⟩
theorem yielded_tuple {ops : Array Oper} {tmps : Array Value} {j d : Nat} {cs : Array Value} (hdj : (ops[j]?).bind (·.dst) = some d) (hval : tmps.getD d undef = .tuple cs) : yielded ops tmps j = none := by
  unfold yielded
  rw [hdj]
  rw [Array.getD_eq_getD_getElem?] at hval
  cases h : tmps[d]? with
  | none => simp [h]
  | some x => rw [h] at hval; simp at hval; subst hval; simp [h]

section
variable {P : Program} {T : Tab} {G : Ghost}

theorem ops_sound (hT : T.Ok P) {ops : Array Oper} {Q : Exit → Act → World → Prop} : ∀ (l : List Oper) (s : St) (K : St → Prop), (∀ o ∈ l, ∀ d, o.dst = some d → d < G.n) → opsK P T ops l s K →
    (∀ s' a' w', K s' → Sim G s' a' w' → Q .normal a' w') → ∀ a w, Sim G s a w → wpList P ops Q l a w := by
  intro l
  induction l with
  | nil => intro s K _ hk hQ a w hs; exact hQ s a w hk hs
  | cons o os ih =>
    intro s K hd hk hQ a w hs
    have hd0 := hd o (by simp)
    have run : ∀ s1, Sim G s1 a w → (op2K P T s1 o fun s2 => opsK P T ops os s2 K) → o.wp P a w (wpList P ops Q os) Q := fun s1 hs1 hk =>
      op2_sound hT hd0 hk hs1 fun s2 a' w' hk2 h' => ih s2 K (fun o ho => hd o (by simp [ho])) hk2 hQ a' w' h'
    simp only [wpList]
    simp only [opsK, guardK] at hk
    cases hg : o.guard with
    | none =>
      simp only [hg] at hk
      rw [if_pos (by simp [Region.wanted, hg])]
      exact .inl (run s hs hk)
    | some jw =>
      obtain ⟨j, want⟩ := jw
      simp only [hg] at hk
      split at hk
      · rename_i d hdj
        split at hk
        · rename_i b hb
          have hval : a.tmps.getD d undef = .bool b := by
            obtain ⟨E, hs⟩ := hs
            have := hs.slots d
            rw [hb] at this
            exact this.v_eq
          have hy : yielded ops a.tmps j = some b := by
            have hsz : a.tmps[d]? = some (.bool b) := by
              rw [Array.getD_eq_getD_getElem?] at hval
              cases h : a.tmps[d]? with
              | none => rw [h] at hval; simp [undef] at hval
              | some x => rw [h] at hval; simp at hval; rw [hval]
            simp [yielded, hdj, hsz]
          by_cases hbw : b = want
          · rw [if_pos (by simp [Region.wanted, hg, hy, hbw])]
            exact .inl (run _ (put_self (by rw [hb, hbw]) hs) (hk.1 hbw))
          · have hbw' : b = !want := by cases b <;> cases want <;> simp_all
            rw [if_neg (by simp [Region.wanted, hg, hy, hbw])]
            have h1 := put_self (d := d) (p := .v (.bool !want)) (by rw [hb, hbw']) hs
            exact ih _ K (fun o ho => hd o (by simp [ho])) (hk.2 hbw') hQ _ w (put_junk hd0 h1)
        · rename_i cs hb
          have hval : a.tmps.getD d undef = .tuple cs := by
            obtain ⟨E, hs⟩ := hs
            have := hs.slots d
            rw [hb] at this
            exact this.v_eq
          rw [if_neg (by simp [Region.wanted, hg, yielded_tuple hdj hval])]
          exact ih _ K (fun o ho => hd o (by simp [ho])) hk hQ _ w (put_junk hd0 hs)
        · exact hk.elim
      · exact hk.elim

end
end Go.Abs

/- DERIVED by an AI agent. A region that draws its order: every order comes to what the text's order comes to. No program in sight. -/
namespace Go.Abs
set_option linter.unusedSimpArgs false

/-- Rows that an operation turns: those of a list, those of a call's result. -/
inductive Tc where
  | ids (l : List Nat)
  | res (d : Nat)
def Tc.has : Tc → Nat → Bool
  | .ids l, k => l.contains k
  | .res d, k => k % 1000 == d % 1000
/-- What an operation reads and turns of the rows. -/
structure Ent where
  rd : List Nat
  tc : Tc

/-- Operations that do not look at rows. -/
def rowFree (o : Oper) : Bool :=
  match o.op with
  | .move _ => true
  | .assign _ => true
  | .pick _ _ _ => true
  | .binOp _ _ _ _ _ => true
  | .unOp _ _ _ => true
  | .extract _ _ => true
  | .makeFunc _ _ _ => true
  | .field _ _ _ => true
  | .index _ _ _ => true
  | _ => false

def gVal (ops : Array Oper) (s : St) (o : Oper) : Option Bool :=
  match o.guard with
  | none => some true
  | some (j, want) => match (ops[j]?).bind (·.dst) with | some d => (match s.sl d with | .v (.bool b) => some (b == want) | .v (.tuple _) => some false | _ => none) | none => none

def names (ops : Array Oper) (o : Oper) : List Nat :=
  o.dst.toList ++ (o.op.operands.toList.filterMap fun | .tmp t => some t | _ => none) ++ (match o.guard with | some (j, _) => ((ops[j]?).bind (·.dst)).toList | none => [])

abbrev RowsF := Nat → Row
/-- A step: the value, the rows, what was read and turned. -/
structure Stp where
  val : PV
  rows : RowsF
  e : Ent
def St.step (s : St) (o : Oper) (x : Stp) : St := (St.mk s.sl x.rows).put o.dst x.val
/-- The step where other rows may have turned. -/
def St.stepIn (s : St) (o : Oper) (x : Stp) : St := (St.mk s.sl fun k => if x.e.tc.has k = true then x.rows k else s.rw k).put o.dst x.val

structure Local (ops : Array Oper) (o : Oper) (s s' : St) : Prop where
  ev : ∀ x ∈ o.op.operands, s'.ev x = s.ev x

inductive StepOk (P : Program) (G : Ghost) (ops : Array Oper) (s : St) (o : Oper) (x : Stp) : Prop
  | skip (hg : gVal ops s o = some false) (hp : x.val = .v undef) (hr : x.rows = s.rw) (ht : x.e.tc = .ids []) : StepOk P G ops s o x
  | step (hg : gVal ops s o = some true) (hr : ∀ k, x.e.tc.has k = false → x.rows k = s.rw k)
      (he : ∀ s' : St, (∀ k, k ∈ x.e.rd ∨ x.e.tc.has k = true → s'.rw k = s.rw k) → (∀ y ∈ o.op.operands, s'.ev y = s.ev y) → Effects P G s' o (s'.stepIn o x)) : StepOk P G ops s o x

inductive Tr (P : Program) (G : Ghost) (ops : Array Oper) : List Oper → St → List Stp → St → Prop
  | nil (s : St) : Tr P G ops [] s [] s
  | cons {o : Oper} {os : List Oper} {s s' : St} {x : Stp} {l : List Stp} (h : StepOk P G ops s o x) (t : Tr P G ops os (s.step o x) l s') : Tr P G ops (o :: os) s (x :: l) s'

def stAt : List Oper → List Stp → St → Nat → St
  | o :: os, x :: l, s, i + 1 => stAt os l (s.step o x) i
  | _, _, s, _ => s

section
variable {P : Program} {T : Tab} {G : Ghost} {ops : Array Oper}

theorem stAt_zero (l : List Oper) (tr : List Stp) (s : St) : stAt l tr s 0 = s := by cases l <;> cases tr <;> rfl

theorem Tr.length {l : List Oper} {s s' : St} {tr : List Stp} (h : Tr P G ops l s tr s') : tr.length = l.length := by
  induction h with
  | nil => rfl
  | cons _ _ ih => simp [ih]

theorem Tr.last {l : List Oper} {s s' : St} {tr : List Stp} (h : Tr P G ops l s tr s') : stAt l tr s l.length = s' := by
  induction h with
  | nil => rfl
  | cons _ _ ih => exact ih

theorem Tr.at {l : List Oper} {s s' : St} {tr : List Stp} (h : Tr P G ops l s tr s') : ∀ i (a : i < l.length) (b : i < tr.length), StepOk P G ops (stAt l tr s i) l[i] tr[i] ∧ stAt l tr s (i + 1) = (stAt l tr s i).step l[i] tr[i] := by
  induction h with
  | nil => intro i a; simp at a
  | cons h _ ih =>
    intro i a b
    cases i with
    | zero =>
      refine ⟨by rw [stAt_zero]; exact h, ?_⟩
      rw [stAt_zero]
      exact stAt_zero _ _ _
    | succ i =>
      exact ih i (by simpa using a) (by simpa using b)

def lastIdx : Nat → (Nat → Bool) → Option Nat
  | 0, _ => none
  | n + 1, p => if p n = true then some n else lastIdx n p

theorem lastIdx_congr : ∀ (n : Nat) (p q : Nat → Bool), (∀ k, k < n → p k = q k) → lastIdx n p = lastIdx n q := by
  intro n
  induction n with
  | zero => intro p q _; rfl
  | succ n ih => intro p q h; simp only [lastIdx]; rw [h n (by omega), ih p q fun k hk => h k (by omega)]

theorem lastIdx_cut : ∀ (n i : Nat) (p q : Nat → Bool), i ≤ n → (∀ k, k < i → p k = q k) → (∀ k, i ≤ k → k < n → p k = false) → lastIdx n p = lastIdx i q := by
  intro n
  induction n with
  | zero => intro i p q h _ _; obtain rfl : i = 0 := by omega
            rfl
  | succ n ih =>
    intro i p q h h1 h2
    by_cases hi : i = n + 1
    · subst hi; exact lastIdx_congr _ _ _ h1
    · simp only [lastIdx]
      rw [h2 n (by omega) (by omega)]
      exact ih i p q (by omega) h1 fun k a b => h2 k a (by omega)

theorem lastIdx_some : ∀ (n i : Nat) (p : Nat → Bool), i < n → p i = true → (∀ k, i < k → k < n → p k = false) → lastIdx n p = some i := by
  intro n
  induction n with
  | zero => intro i p h; omega
  | succ n ih =>
    intro i p h h1 h2
    by_cases hi : i = n
    · subst hi; simp [lastIdx, h1]
    · simp only [lastIdx]
      rw [h2 n (by omega) (by omega)]
      exact ih i p (by omega) h1 fun k a b => h2 k a (by omega)

/-- A slot by what has been done of the trace. -/
def slotD (l : List Oper) (tr : List Stp) (s : St) (D : Nat → Bool) (t : Nat) : PV :=
  match lastIdx l.length (fun k => D k && ((l[k]?).bind (·.dst) == some t)) with
  | some k => (tr[k]?.map (·.val)).getD .junk
  | none => s.sl t
def turnsAt (tr : List Stp) (k j : Nat) : Bool := (tr[j]?.map fun x => x.e.tc.has k).getD false
def rowsD (l : List Oper) (tr : List Stp) (s : St) (D : Nat → Bool) : RowsF := fun k =>
  match lastIdx l.length (fun j => D j && turnsAt tr k j) with
  | some j => (tr[j]?.map (fun x => x.rows k)).getD (s.rw k)
  | none => s.rw k

theorem step_sl (s : St) (o : Oper) (x : Stp) (t : Nat) : (s.step o x).sl t = if o.dst = some t then x.val else s.sl t := by
  unfold St.step St.put
  cases h : o.dst with
  | none => simp
  | some d =>
    simp only [Option.some.injEq]
    by_cases e : t = d
    · subst e; simp
    · rw [if_neg e, if_neg (fun h => e h.symm)]
theorem step_rw (s : St) (o : Oper) (x : Stp) : (s.step o x).rw = x.rows := by unfold St.step St.put; cases o.dst <;> rfl

theorem Tr.slots {l : List Oper} {s s' : St} {tr : List Stp} (h : Tr P G ops l s tr s') (t : Nat) : ∀ i, i ≤ l.length →
    (stAt l tr s i).sl t = match lastIdx i (fun k => (l[k]?).bind (·.dst) == some t) with | some k => (tr[k]?.map (·.val)).getD .junk | none => s.sl t := by
  intro i
  induction i with
  | zero => intro _; rw [stAt_zero]; rfl
  | succ i ih =>
    intro hi
    have hl : i < tr.length := by rw [h.length]; omega
    rw [(h.at i (by omega) hl).2, step_sl]
    simp only [lastIdx]
    have e : l[i]? = some l[i] := List.getElem?_eq_getElem (by omega)
    by_cases hd : l[i].dst = some t
    · rw [if_pos hd, if_pos (by simp [e, hd])]
      simp [List.getElem?_eq_getElem hl]
    · rw [if_neg hd, if_neg (by simp [e, hd])]
      exact ih (by omega)

theorem Tr.rows {l : List Oper} {s s' : St} {tr : List Stp} (h : Tr P G ops l s tr s') (k : Nat) : ∀ i, i ≤ l.length →
    (stAt l tr s i).rw k = match lastIdx i (turnsAt tr k) with | some j => (tr[j]?.map (fun x => x.rows k)).getD (s.rw k) | none => s.rw k := by
  intro i
  induction i with
  | zero => intro _; rw [stAt_zero]; rfl
  | succ i ih =>
    intro hi
    have hl : i < tr.length := by rw [h.length]; omega
    obtain ⟨hok, hst⟩ := h.at i (by omega) hl
    rw [hst, step_rw]
    simp only [lastIdx]
    have e : tr[i]? = some tr[i] := List.getElem?_eq_getElem hl
    by_cases hd : turnsAt tr k i = true
    · rw [if_pos hd]
      simp [e]
    · rw [if_neg hd, ← ih (by omega)]
      have hd' : tr[i].e.tc.has k = false := by simpa [turnsAt, e] using hd
      cases hok with
      | skip _ _ hr _ => rw [hr]
      | step _ hr _ => exact hr k hd'
end
end Go.Abs

/- DERIVED by an AI agent. The look at a region's edges; every order it allows. No program in sight. -/
namespace Go.Abs
set_option linter.unusedSimpArgs false

def directs (o : Oper) : List Nat := (o.after.toList.filter fun e => Region.binds .any e).map (·.on)
def maskOf (ms : List Nat) : List Nat → Nat
  | [] => 0
  | k :: ks => 2 ^ k ||| ms.getD k 0 ||| maskOf ms ks
def masks : List Oper → List Nat → List Nat
  | [], ms => ms
  | o :: os, ms => masks os (ms ++ [maskOf ms (directs o)])

theorem maskOf_bit (ms : List Nat) : ∀ (ks : List Nat) (i : Nat), (maskOf ms ks).testBit i = true → ∃ k ∈ ks, i = k ∨ (ms.getD k 0).testBit i = true := by
  intro ks
  induction ks with
  | nil => intro i h; simp [maskOf] at h
  | cons k ks ih =>
    intro i h
    simp only [maskOf, Nat.testBit_or, Bool.or_eq_true] at h
    rcases h with (h | h) | h
    · exact ⟨k, by simp, .inl (by rw [Nat.testBit_two_pow] at h; simp at h; exact h.symm)⟩
    · exact ⟨k, by simp, .inr h⟩
    · obtain ⟨k', hk, h⟩ := ih i h
      exact ⟨k', by simp [hk], h⟩

def GoodM (l : List Oper) (ms : List Nat) (n : Nat) : Prop := ∀ j, j < n → ∀ i, (ms.getD j 0).testBit i = true → ∃ k ∈ (l[j]?.map directs).getD [], i = k ∨ (ms.getD k 0).testBit i = true

theorem masks_good (l : List Oper) : ∀ (os pre : List Oper) (ms : List Nat), l = pre ++ os → ms.length = pre.length → GoodM l ms pre.length → GoodM l (masks os ms) l.length := by
  intro os
  induction os with
  | nil => intro pre ms h1 h2 h3; simp at h1; subst h1; exact h3
  | cons o os ih =>
    intro pre ms h1 h2 h3
    have hl : l[pre.length]? = some o := by rw [h1]; simp
    refine ih (pre ++ [o]) (ms ++ [maskOf ms (directs o)]) (by simp [h1]) (by simp [h2]) fun j hj i hb => ?_
    have keep : ∀ k, (ms.getD k 0).testBit i = true → ((ms ++ [maskOf ms (directs o)]).getD k 0).testBit i = true := fun k hk => by
      by_cases hlt : k < ms.length
      · simpa [List.getD, List.getElem?_append_left hlt] using hk
      · simp [List.getD, List.getElem?_eq_none (by omega : ms.length ≤ k)] at hk
    by_cases hlt : j < ms.length
    · have hb' : (ms.getD j 0).testBit i = true := by simpa [List.getD, List.getElem?_append_left hlt] using hb
      obtain ⟨k, hk, h⟩ := h3 j (by omega) i hb'
      exact ⟨k, hk, h.imp id (keep k)⟩
    · obtain rfl : j = pre.length := by simp at hj; omega
      have hb' : (maskOf ms (directs o)).testBit i = true := by
        have : (ms ++ [maskOf ms (directs o)]).getD pre.length 0 = maskOf ms (directs o) := by
          rw [← h2]; simp [List.getD]
        rwa [this] at hb
      obtain ⟨k, hk, h⟩ := maskOf_bit ms _ i hb'
      exact ⟨k, by simpa [hl] using hk, h.imp id (keep k)⟩

def meets (ops : Array Oper) (a b : Oper) : Bool :=
  (match a.dst with | some t => (names ops b).contains t | none => false) || (match b.dst with | some t => (names ops a).contains t | none => false)

def allBelow : Nat → (Nat → Bool) → Bool
  | 0, _ => true
  | n + 1, p => p n && allBelow n p
theorem allBelow_at : ∀ (n : Nat) (p : Nat → Bool), allBelow n p = true → ∀ k, k < n → p k = true := by
  intro n
  induction n with
  | zero => intro p _ k hk; omega
  | succ n ih =>
    intro p h k hk
    simp only [allBelow, Bool.and_eq_true] at h
    by_cases e : k = n
    · subst e; exact h.1
    · exact ih p h.2 k (by omega)

def tcHits : Tc → Tc → Bool
  | .ids l, t => l.any t.has
  | .res d, .ids l => l.any (Tc.res d).has
  | .res d, .res d' => d % 1000 == d' % 1000
theorem tcHits_of {a b : Tc} {k : Nat} (h1 : a.has k = true) (h2 : b.has k = true) : tcHits a b = true := by
  cases a with
  | ids l => simp only [tcHits, List.any_eq_true]; exact ⟨k, by simpa [Tc.has] using h1, h2⟩
  | res d =>
    cases b with
    | ids l => simp only [tcHits, List.any_eq_true]; exact ⟨k, by simpa [Tc.has] using h2, h1⟩
    | res d' => simp only [tcHits, Tc.has, beq_iff_eq] at h1 h2 ⊢; omega
def conf (a b : Ent) : Bool := a.rd.any b.tc.has || b.rd.any a.tc.has || tcHits a.tc b.tc
theorem conf_of {a b : Ent} {k : Nat} (h1 : k ∈ a.rd ∨ a.tc.has k = true) (h2 : b.tc.has k = true) : conf a b = true ∧ conf b a = true := by
  unfold conf
  rcases h1 with h1 | h1
  · have : a.rd.any b.tc.has = true := List.any_eq_true.2 ⟨k, h1, h2⟩
    simp [this]
  · simp [tcHits_of h1 h2, tcHits_of h2 h1]
/-- The look at rows: operations that meet in a row stand in an order that the edges force. -/
def lines (ops : Array Oper) (es : List Ent) : Bool :=
  allBelow es.length fun j => allBelow j fun i => match es[i]?, es[j]? with
    | some a, some b => !conf a b || ((masks ops.toList []).getD j 0).testBit i
    | _, _ => true

/-- The look: operations that meet stand in an order that the edges force. -/
def orderOk (ops : Array Oper) : Bool :=
  allBelow ops.size fun j => match ops[j]? with
    | none => true
    | some oj => (directs oj).all (· < j) && allBelow j fun i => match ops[i]? with
        | none => true
        | some oi => !meets ops oi oj || ((masks ops.toList []).getD j 0).testBit i

section
variable {P : Program} {T : Tab} {G : Ghost} {ops : Array Oper}

structure Ordered (ops : Array Oper) : Prop where
  low : ∀ j oj, ops[j]? = some oj → ∀ k ∈ directs oj, k < j
  bef : ∀ i j oi oj, i < j → ops[i]? = some oi → ops[j]? = some oj → meets ops oi oj = true → ((masks ops.toList []).getD j 0).testBit i = true

theorem ordered_of (h : orderOk ops = true) : Ordered ops := by
  have key : ∀ j oj, ops[j]? = some oj → ((directs oj).all (· < j) && allBelow j fun i => match ops[i]? with
        | none => true
        | some oi => !meets ops oi oj || ((masks ops.toList []).getD j 0).testBit i) = true := fun j oj hj => by
    have hlt : j < ops.size := (Array.getElem?_eq_some_iff.1 hj).1
    have := allBelow_at _ _ h j hlt
    simpa only [hj] using this
  refine ⟨fun j oj hj k hk => ?_, fun i j oi oj hij hi hj hm => ?_⟩
  · have := key j oj hj
    simp only [Bool.and_eq_true, List.all_eq_true] at this
    simpa using this.1 k hk
  · have := key j oj hj
    simp only [Bool.and_eq_true] at this
    have := allBelow_at _ _ this.2 i hij
    simp only [hi] at this
    simpa [hm] using this

def Lined (ops : Array Oper) (es : List Ent) : Prop := ∀ (i j : Nat) (a b : Ent), i < j → es[i]? = some a → es[j]? = some b → conf a b = true → ((masks ops.toList []).getD j 0).testBit i = true
theorem lined_of {es : List Ent} (h : lines ops es = true) : Lined ops es := by
  intro i j a b hij hi hj hc
  have hlt : j < es.length := (List.getElem?_eq_some_iff.1 hj).1
  have := allBelow_at _ _ (allBelow_at _ _ h j hlt) i hij
  simp only [hi, hj, hc] at this
  simpa using this

/-- What has been done is closed under what it waits for. -/
def Closed (ops : Array Oper) (D : Nat → Bool) : Prop := ∀ j oj, ops[j]? = some oj → D j = true → ∀ k ∈ directs oj, D k = true

theorem closed_bef (ho : Ordered ops) {D : Nat → Bool} (hc : Closed ops D) : ∀ (j : Nat) (oj : Oper), ops[j]? = some oj → (∀ k ∈ directs oj, D k = true) → ∀ i, ((masks ops.toList []).getD j 0).testBit i = true → D i = true := by
  intro j
  induction j using Nat.strongRecOn with
  | _ j ih =>
    intro oj hj hd i hb
    have hlt : j < ops.size := (Array.getElem?_eq_some_iff.1 hj).1
    have hg := masks_good ops.toList ops.toList [] [] rfl rfl (fun j hj => absurd hj (by simp)) j (by simpa using hlt) i hb
    obtain ⟨k, hk, h⟩ := hg
    have hjl : ops.toList[j]? = some oj := by simpa using hj
    rw [hjl] at hk
    simp at hk
    rcases h with rfl | h
    · exact hd i hk
    · have hkj := ho.low j oj hj k hk
      have hks : k < ops.size := by omega
      exact ih k hkj ops[k] (Array.getElem?_eq_getElem hks) (hc k ops[k] (Array.getElem?_eq_getElem hks) (hd k hk)) i h

/-- The state of what has been done of the trace. -/
def stD (ops : Array Oper) (tr : List Stp) (s : St) (D : Nat → Bool) : St := ⟨slotD ops.toList tr s D, rowsD ops.toList tr s D⟩

variable {s s' : St} {tr : List Stp}

theorem slot_ready (ho : Ordered ops) (ht : Tr P G ops ops.toList s tr s') {D : Nat → Bool} (hc : Closed ops D) {i : Nat} {o : Oper} (hi : ops[i]? = some o) (hD : D i = false) (hd : ∀ k ∈ directs o, D k = true)
    {t : Nat} (hn : t ∈ names ops o) : slotD ops.toList tr s D t = (stAt ops.toList tr s i).sl t := by
  have hlt : i < ops.size := (Array.getElem?_eq_some_iff.1 hi).1
  rw [ht.slots t i (by simp; omega)]
  unfold slotD
  have e : lastIdx ops.toList.length (fun k => D k && ((ops.toList[k]?).bind (·.dst) == some t)) = lastIdx i (fun k => (ops.toList[k]?).bind (·.dst) == some t) := by
    refine lastIdx_cut _ i _ _ (by simp; omega) (fun k hk => ?_) (fun k hk1 hk2 => ?_)
    · cases hb : ((ops.toList[k]?).bind (·.dst) == some t) with
      | false => simp
      | true =>
        have hks : k < ops.size := by omega
        have hok : ops[k]? = some ops[k] := Array.getElem?_eq_getElem hks
        have hdst : ops[k].dst = some t := by simpa [hok] using hb
        have hm : meets ops ops[k] o = true := by simp [meets, hdst, hn]
        have := closed_bef ho hc i o hi hd k (ho.bef k i _ _ hk hok hi hm)
        simp [this]
    · by_cases hb : ((ops.toList[k]?).bind (·.dst) == some t) = true
      · by_cases hki : k = i
        · subst hki; simp [hD]
        · have hks : k < ops.size := by simpa using hk2
          have hok : ops[k]? = some ops[k] := Array.getElem?_eq_getElem hks
          have hdst : ops[k].dst = some t := by simpa [hok] using hb
          have hm : meets ops o ops[k] = true := by simp [meets, hdst, hn]
          cases hDk : D k with
          | false => simp
          | true =>
            have := closed_bef ho hc k _ hok (hc k _ hok hDk) i (ho.bef i k _ _ (by omega) hi hok hm)
            rw [hD] at this; cases this
      · rw [Bool.not_eq_true] at hb
        simp only [hb, Bool.and_false]
  rw [e]

theorem line_row (hl : Lined ops (tr.map (·.e))) {i j k : Nat} {x : Stp} (hx : tr[i]? = some x) (hk : k ∈ x.e.rd ∨ x.e.tc.has k = true) (hj : turnsAt tr k j = true) :
    (j < i → ((masks ops.toList []).getD i 0).testBit j = true) ∧ (i < j → ((masks ops.toList []).getD j 0).testBit i = true) := by
  unfold turnsAt at hj
  cases hy : tr[j]? with
  | none => rw [hy] at hj; cases hj
  | some y =>
    rw [hy] at hj
    obtain ⟨c1, c2⟩ := conf_of hk (show y.e.tc.has k = true by simpa using hj)
    have e1 : (tr.map (·.e))[i]? = some x.e := by simp [hx]
    have e2 : (tr.map (·.e))[j]? = some y.e := by simp [hy]
    exact ⟨fun h => hl j i _ _ h e2 e1 c2, fun h => hl i j _ _ h e1 e2 c1⟩

theorem rows_ready (ho : Ordered ops) (hl : Lined ops (tr.map (·.e))) (ht : Tr P G ops ops.toList s tr s') {D : Nat → Bool} (hc : Closed ops D) {i : Nat} {o : Oper} (hi : ops[i]? = some o) (hD : D i = false) (hd : ∀ k ∈ directs o, D k = true)
    {x : Stp} (hx : tr[i]? = some x) {k : Nat} (hk : k ∈ x.e.rd ∨ x.e.tc.has k = true) : rowsD ops.toList tr s D k = (stAt ops.toList tr s i).rw k := by
  have hlt : i < ops.size := (Array.getElem?_eq_some_iff.1 hi).1
  rw [ht.rows k i (by simp; omega)]
  unfold rowsD
  have e : lastIdx ops.toList.length (fun j => D j && turnsAt tr k j) = lastIdx i (turnsAt tr k) := by
    refine lastIdx_cut _ i _ _ (by simp; omega) (fun j hj => ?_) (fun j hj1 hj2 => ?_)
    · cases hb : turnsAt tr k j with
      | false => simp
      | true =>
        have := closed_bef ho hc i o hi hd j ((line_row hl hx hk hb).1 hj)
        simp [this]
    · cases hb : turnsAt tr k j with
      | false => simp
      | true =>
        by_cases hki : j = i
        · subst hki; simp [hD]
        · have hks : j < ops.size := by simpa using hj2
          have hok : ops[j]? = some ops[j] := Array.getElem?_eq_getElem hks
          cases hDk : D j with
          | false => simp
          | true =>
            have := closed_bef ho hc j _ hok (hc j _ hok hDk) i ((line_row hl hx hk hb).2 (by omega))
            rw [hD] at this; cases this
  rw [e]

/-- One operation more is done. -/
theorem stD_done (ho : Ordered ops) (hl : Lined ops (tr.map (·.e))) {D : Nat → Bool} (hc : Closed ops D) {i : Nat} {o : Oper} (hi : ops[i]? = some o) (hD : D i = false)
    {x : Stp} (hx : tr[i]? = some x) :
    stD ops tr s (fun k => D k || k == i) = (stD ops tr s D).stepIn o x := by
  have hlt : i < ops.size := (Array.getElem?_eq_some_iff.1 hi).1
  have hil : ops.toList[i]? = some o := by simpa using hi
  have e1 : (stD ops tr s (fun k => D k || k == i)).sl = ((stD ops tr s D).stepIn o x).sl := by
    funext t
    have es : ((stD ops tr s D).stepIn o x).sl t = if o.dst = some t then x.val else (stD ops tr s D).sl t := by
      unfold St.stepIn St.put
      cases h : o.dst with
      | none => simp
      | some d =>
        simp only [Option.some.injEq]
        by_cases e : t = d
        · subst e; simp
        · rw [if_neg e, if_neg (fun h => e h.symm)]
    rw [es]
    by_cases hdst : o.dst = some t
    · rw [if_pos hdst]
      show slotD _ _ _ _ t = _
      unfold slotD
      rw [lastIdx_some _ i _ (by simpa using hlt) (by simp [hil, hdst]) (fun k hk1 hk2 => ?_)]
      · simp [hx]
      · have hk2' : k < ops.size := by simpa using hk2
        have hok : ops[k]? = some ops[k] := Array.getElem?_eq_getElem hk2'
        have hne : (k == i) = false := by simp; omega
        simp only [hne, Bool.or_false]
        cases hDk : D k with
        | false => simp
        | true =>
          by_cases hd : ops[k].dst = some t
          · have hm : meets ops o ops[k] = true := by simp [meets, hdst, names, hd]
            have := closed_bef ho hc k _ hok (hc k _ hok hDk) i (ho.bef i k _ _ hk1 hi hok hm)
            rw [hD] at this; cases this
          · simp [hok, hd]
    · rw [if_neg hdst]
      show slotD _ _ _ _ t = slotD _ _ _ D t
      unfold slotD
      rw [lastIdx_congr _ _ (fun k => D k && ((ops.toList[k]?).bind (·.dst) == some t)) fun k hk => ?_]
      by_cases hki : k = i
      · subst hki; simp [hil, hdst]
      · have : (k == i) = false := by simp [hki]
        simp [this]
  have e2 : (stD ops tr s (fun k => D k || k == i)).rw = ((stD ops tr s D).stepIn o x).rw := by
    funext k
    have es : ((stD ops tr s D).stepIn o x).rw k = if x.e.tc.has k = true then x.rows k else (stD ops tr s D).rw k := by unfold St.stepIn St.put; cases o.dst <;> rfl
    rw [es]
    have hti : turnsAt tr k i = x.e.tc.has k := by simp [turnsAt, hx]
    by_cases hw : x.e.tc.has k = true
    · rw [if_pos hw]
      show rowsD _ _ _ _ k = _
      unfold rowsD
      rw [lastIdx_some _ i _ (by simpa using hlt) (by simp [hti, hw]) (fun j hk1 hk2 => ?_)]
      · simp [hx]
      · have hk2' : j < ops.size := by simpa using hk2
        have hok : ops[j]? = some ops[j] := Array.getElem?_eq_getElem hk2'
        have hne : (j == i) = false := by simp; omega
        simp only [hne, Bool.or_false]
        cases hDk : D j with
        | false => simp
        | true =>
          cases hb : turnsAt tr k j with
          | false => simp
          | true =>
            have := closed_bef ho hc j _ hok (hc j _ hok hDk) i ((line_row hl hx (.inr hw) hb).2 hk1)
            rw [hD] at this; cases this
    · rw [if_neg hw]
      show rowsD _ _ _ _ k = rowsD _ _ _ D k
      unfold rowsD
      rw [lastIdx_congr _ _ (fun j => D j && turnsAt tr k j) fun j hk => ?_]
      by_cases hki : j = i
      · subst hki; simp [hti, hw]
      · have : (j == i) = false := by simp [hki]
        simp [this]
  cases hA : stD ops tr s (fun k => D k || k == i) with
  | mk a b =>
    cases hB : (stD ops tr s D).stepIn o x with
    | mk c d =>
      rw [hA, hB] at e1 e2
      simp only at e1 e2
      rw [e1, e2]

end
end Go.Abs
