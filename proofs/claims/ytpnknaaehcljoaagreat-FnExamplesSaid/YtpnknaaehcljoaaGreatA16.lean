/- DERIVED by an AI agent. -/
import Derived.Test.YtpnknaaehcljoaaGreatA15
/- DERIVED by an AI agent. Rows that are written no more, seen as values; a new table under a number of its own. No program in sight. -/
namespace Go.Abs
set_option linter.unusedSimpArgs false
set_option linter.unusedVariables false
section
variable {G : Ghost} {s : St} {E : Env} {a : Act} {w : World}
def Env.kill (E : Env) (k : Nat) (p : List Nat) : Env := { R := killF E.R k p, rm := E.rm, rv := E.rv, L := mkL E.X (killF E.R k p) E.rm, B := E.B, X := E.X }
theorem SimE.kill [Held] (hs : SimE G E s a w) (k : Nat) (p : List Nat) : SimE G (E.kill k p) (s.killed k p) a w ∧ Lasts w w E (E.kill k p) := by
  have dead : ∀ j, InT k p j → (killF E.R k p j).kind.nd = true → False := fun j hj h => by rw [killF_in hj] at h; cases h
  have ht : Turn G E (E.kill k p) w w (InT k p) := by
    refine ⟨rfl, rfl, rfl, fun j hj => ⟨killF_out hj, rfl, rfl⟩, fun _ _ _ => rfl, fun j b hD _ hnd => (dead j hD hnd).elim, fun j hD => ?_, fun j hD he _ => ?_, fun j hD he _ => ?_, fun j hD hnd => (dead j hD hnd).elim, fun j j' b hD hD' h1 _ _ _ => (dead j hD h1).elim, Nat.le_refl _, rfl, rfl, ⟨rfl, fun _ => by first | exact Nat.le_refl _ | exact Nat.le_succ _⟩⟩
    · show _ ≤ (killF E.R k p j).ver
      rw [killF_in hD]; exact Nat.le_succ _
    · have he : (killF E.R k p j).ver = (E.R j).ver := he
      rw [killF_in hD] at he; simp at he
    · have he : (killF E.R k p j).ver = (E.R j).ver := he
      rw [killF_in hD] at he; simp at he
  have hrows : ∀ j, InT k p j → RowOk w (E.kill k p) G.C j := fun j hj => by
    unfold RowOk
    show match (killF E.R k p j).kind with | .dead => True | .nil => _ | .box t cells => _ | .sli e sz _ cells => _ | .tab e cells => _
    rw [killF_in hj]; trivial
  have key : SimE G (E.kill k p) ({ s with rw := killF E.R k p } : St) a w := ht.sim hs hrows
  have e : ({ s with rw := killF E.R k p } : St) = s.killed k p := by rw [hs.rw]; rfl
  rw [e] at key
  exact ⟨key, ht.lasts hs.wok⟩
theorem kill_dead [Held] (hs : SimE G E s a w) {k j b : Nat} {p : List Nat} (hj : InT k p j) (hn : (E.R j).kind.nd = true) (hb : E.rm j = some b) : ¬ (E.kill k p).L b := by
  rintro (⟨i, h1, h2⟩ | hX)
  · have h1 : E.rm i = some b := h1
    have h2 : (killF E.R k p i).kind.live = true := h2
    by_cases hi : InT k p i
    · rw [killF_in hi] at h2; cases h2
    · rw [killF_out hi] at h2
      have := hs.wok.inj i j b (RK.nd_of_live h2) hn h1 hb
      exact hi (this ▸ hj)
  · exact hs.wok.apart j b hn hb (hs.wok.xs ▸ hX)
theorem row_own [Held] (hs : SimE G E s a w) {j b : Nat} (hjl : j < lent) (hn : (E.R j).kind.nd = true) (hb : E.rm j = some b) : E.B ≤ b := by
  have := (hs.wok.block hb hn).2
  rw [hs.wok.base]
  rcases this with h | h
  · exact h
  · exact absurd h.1 (by omega)
theorem flat_rep2 [Held] (hs : SimE G E s a w) {k j v e sz : Nat} {fz : Bool} {p : List Nat} {c : List PV} (hj : InT k p j) (hjl : j < lent) (hr : E.R j = ⟨v, .sli e sz fz c⟩)
    {E2 : Env} {lo2 : Nat} {fr : Bool} (q1 : E2.bare = (E.kill k p).bare) (q2 : E2.L = (E.kill k p).L) (q3 : E2.lo lo2 fr = E.B) : Rep w E2 lo2 (.sl fr sz c) (E.rv j) := by
  have hl := (hs.kill k p).2
  have hrow := hs.wok.rows j
  unfold RowOk at hrow
  rw [hr] at hrow
  rcases hrow with ⟨_, h2, h3⟩ | ⟨b, n, cap, vs, rest, h1, h2, h3, h4, h5, h6, h7, h8, h9⟩
  · subst h3
    rw [h2]
    exact .sl (fun _ => default) (by simp) (Nat.le_refl _) (Nat.zero_le _) (fun i hi => absurd hi (by simp)) (fun i hi => absurd hi (by simp))
  · rw [h3]
    have hn : (E.R j).kind.nd = true := by rw [hr]; rfl
    refine .sl (fun i => vs.getD i default) (by rw [h9.1, h5]) h6 h7 (fun i hi => ⟨b, 0, rfl, ?_, ?_, ?_⟩) (fun i hi => ?_)
    · rw [q3]; exact row_own hs hjl hn h1
    · rw [q2]; exact kill_dead hs hj hn h1
    · have hv : i < vs.length := by rw [← h9.1]; exact hi
      simp [World.cell?, h4, hv, List.getElem?_append, List.getD]
    · have hv : i < vs.length := by rw [← h9.1]; exact hi
      have := h9.2 i hi hv
      have e1 : vs.getD i default = vs[i] := by simp [List.getD, hv]
      rw [e1, q1, q3]
      exact this.mono hl.bare (Nat.le_refl _)
theorem kill_lo [Held] (k : Nat) (p : List Nat) : (E.kill k p).lo 0 true = E.B := Nat.zero_max _
theorem flat_rep [Held] (hs : SimE G E s a w) {k j v e sz : Nat} {fz : Bool} {p : List Nat} {c : List PV} (hj : InT k p j) (hjl : j < lent) (hr : E.R j = ⟨v, .sli e sz fz c⟩) : Rep w (E.kill k p) 0 (.sl true sz c) (E.rv j) :=
  flat_rep2 hs hj hjl hr rfl rfl (kill_lo k p)
end
section
variable {s : St} {k v e e2 d : Nat} {q : List Nat} {M : Mat}
theorem Wk.flatRow [Held] {sz : Nat} {fz : Bool} {c : List PV} (h : s.rw k = ⟨v, .sli e sz fz c⟩) (hk : k < lent) (hd : s.sl d = .own k v) : Wk s ((s.killed k []).put (some d) (.sl true sz c)) := by
  intro G a w ⟨E, hs⟩
  obtain ⟨h1, hl⟩ := hs.kill k []
  have hr : E.R k = ⟨v, .sli e sz fz c⟩ := by rw [hs.rw]; exact h
  refine ⟨_, h1.rw, h1.wok, h1.size, h1.defers, fun i => ?_⟩
  by_cases hid : i = d
  · subst hid
    rw [put_sl_same]
    have h0 := hs.slots i
    rw [hd] at h0
    cases h0 with
    | own hv hx =>
      rw [hx (by rw [hr]) (by rw [hr]; rfl)]
      exact flat_rep hs (.inl rfl) hk hr
  · rw [put_sl_ne _ _ _ _ hid]; exact h1.slots i
theorem Wk.recell [Held] {fr : Bool} {n : Nat} (hd : s.sl d = .sl fr 1 (List.replicate n (.v (.slice none 0 0)))) : Wk s (s.put (some d) (.sl fr 1 (List.replicate n (.sl false 1 [])))) := by
  intro G a w ⟨E, hs⟩
  refine ⟨E, hs.rw, hs.wok, hs.size, hs.defers, fun i => ?_⟩
  by_cases hid : i = d
  · subst hid
    rw [put_sl_same]
    have h0 := hs.slots i
    rw [hd] at h0
    generalize a.tmps.getD i undef = y at h0 ⊢
    cases h0 with
    | sl cs hl hc hm hr hh =>
      refine .sl cs (by simpa using hl) hc hm (fun i hi => hr i (by simpa using hi)) fun i hi => ?_
      have := hh i (by simpa using hi)
      simp only [List.getElem_replicate] at this ⊢
      rw [this.v_eq]
      exact .sl (fun _ => default) (by simp) (Nat.le_refl _) (Nat.zero_le _) (fun i hi => absurd hi (by simp)) (fun i hi => absurd hi (by simp))
  · rw [put_sl_ne _ _ _ _ hid]; exact hs.slots i
theorem Wk.flat [Held] (h : TabI s.rw k v e e2 q M) (hk : k < lent) (hq : ∀ j ∈ q, sid k j < lent) (hd : s.sl d = .own k v) : Wk s ((s.killed k q).put (some d) (.sl true 1 (M.map fun r => .sl false 1 (iL r)))) := by
  intro G a w ⟨E, hs⟩
  obtain ⟨h1, hl⟩ := hs.kill k q
  have hr : E.R k = ⟨v, .tab e (cellsT k q)⟩ := by rw [hs.rw]; exact h.top
  refine ⟨_, h1.rw, h1.wok, h1.size, h1.defers, fun i => ?_⟩
  by_cases hid : i = d
  · subst hid
    rw [put_sl_same]
    have h0 := hs.slots i
    rw [hd] at h0
    cases h0 with
    | own hv hx =>
      rw [hx (by rw [hr]) (by rw [hr]; rfl)]
      have hrow := hs.wok.rows k
      unfold RowOk at hrow
      rw [hr] at hrow
      have hlen := h.len
      rcases hrow with ⟨_, h2, h3⟩ | ⟨b, n, cap, vs, rest, h1, h2, h3, h4, h5, h6, h7, h8, h9⟩
      · have hq0 : q = [] := by simpa [cellsT] using h3
        have hM : M = [] := List.eq_nil_of_length_eq_zero (by rw [← hlen, hq0]; rfl)
        rw [hM, h2]
        exact .sl (fun _ => default) (by simp) (Nat.le_refl _) (Nat.zero_le _) (fun i hi => absurd hi (by simp)) (fun i hi => absurd hi (by simp))
      · rw [h3]
        have hn : (E.R k).kind.nd = true := by rw [hr]; rfl
        have hvl : vs.length = M.length := by rw [← h9.1, cellsT_length, hlen]
        refine .sl (fun i => vs.getD i default) (by simp; omega) h6 h7 (fun i hi => ⟨b, 0, rfl, ?_, kill_dead hs (.inl rfl) hn h1, ?_⟩) (fun i hi => ?_)
        · show max 0 E.B ≤ b
          have := row_own hs hk hn h1; omega
        · have hv : i < vs.length := by rw [hvl]; simpa using hi
          simp [World.cell?, h4, hv, List.getElem?_append, List.getD]
        · have hiM : i < M.length := by simpa using hi
          have hv : i < vs.length := by omega
          have hiq : i < q.length := by omega
          have hc := h9.2 i (by rw [cellsT_length]; exact hiq) hv
          have e1 : vs.getD i default = vs[i] := by simp [List.getD, hv]
          rw [e1, List.getElem_map]
          have hrow := h.row hiM
          have hqd : q.getD i 0 = q[i] := by simp [List.getD, hiq]
          rw [hqd] at hrow
          have hrE : E.R (sid k q[i]) = ⟨1, .sli e2 1 false (iL (M.getD i []))⟩ := by rw [hs.rw]; exact hrow
          have hMd : M.getD i [] = M[i] := by simp [List.getD, hiM]
          have hc2 : Rep w E 0 (.own (sid k q[i]) 1) vs[i] := by simpa [cellsT] using hc
          cases hc2 with
          | own _ hx2 =>
            have hin : InT k q (sid k q[i]) := .inr ⟨q[i], List.getElem_mem hiq, rfl⟩
            rw [hx2 (by rw [hrE]) (by rw [hrE]; rfl), ← hMd]
            refine flat_rep2 hs hin (hq _ (List.getElem_mem hiq)) hrE rfl rfl ?_
            show max ((E.kill k q).lo 0 true) 0 = E.B
            rw [kill_lo, Nat.max_zero]
  · rw [put_sl_ne _ _ _ _ hid]; exact h1.slots i
end
section
variable {s : St} {k j v e e2 d : Nat} {Q : AX → St → Prop}
theorem loop_gmv [Held] {α : Type} (hj : s.rw j = ⟨v, .sli e 1 false []⟩) (hjl : j < lent) (hsl : s.sl d = .own j v) (hk : s.rw k = ⟨0, .dead⟩) (hd : ∀ i, s.rw (sid k i) = ⟨0, .dead⟩) (hjk : (j % 1000 == k % 1000) = false)
    (I : α → St → Prop) (μ : α → Nat) (x0 : α) {b : (AX → St → Prop) → St → Prop} {u : Dm b} {w : Dm Q}
    (h0 : ∀ s', TabG s'.rw k 1 e e2 0 [] → (s'.sl = (s.put (some d) (.own k 1)).sl) → (∀ i, (i % 1000 == k % 1000) = false → i ≠ j → s'.rw i = s.rw i) → I x0 s') (h : ∀ x s1, I x s1 → b (AX.seq (again I μ (μ x)) Q) s1) : loopK (kk b u) (kk Q w) s := by
  have hne : ∀ i, i % 1000 = k % 1000 → i ≠ j := fun i hi e => beq_eq_false_iff_ne.1 hjk (by rw [← e]; exact hi)
  have hw := Wk.moveS (t := k) (N := 1) (M := v) hj (Ne.symm (hne k rfl)) hjl (by rw [hk]; exact Nat.one_pos) (Nat.le_refl _) hsl
  obtain ⟨s', hw2, ht, hsl2, ho'⟩ := TabG.init (s := (((s.row j ⟨v, .dead⟩).row k ⟨1, .sli e 1 false []⟩).put (some d) (.own k 1))) (k := k) (v := 1) (e := e) e2 (by rw [put_rw, row_rw_same]) (fun i => by
    rw [put_rw, row_rw_ne _ _ _ _ (sid_ne k i), row_rw_ne _ _ _ _ (hne _ (sid_mod k i))]; exact hd i)
  refine ⟨α, I, μ, ⟨x0, s', hw.trans hw2, h0 s' ht ?_ fun i h1 h2 => ?_⟩, h⟩
  · rw [hsl2]; rfl
  · have h1' := beq_eq_false_iff_ne.1 h1
    rw [ho' i h1, put_rw, row_rw_ne _ _ _ _ (fun h => h1' (by rw [h])), row_rw_ne _ _ _ _ h2]
end
end Go.Abs

/- DERIVED by an AI agent. Functions that put a slice that they are given behind a table that they are given. No program in sight. -/
namespace Go.Abs
set_option linter.unusedSimpArgs false
set_option linter.unusedVariables false
def inTH (e e2 : Nat) (M : Mat) (r : List Int) (k : Nat) : Row := if k = 1000500 then ⟨1, .sli e2 1 false (iL r)⟩ else inT e e2 (M.map iL) k
def pushPost (e e2 : Nat) (M : Mat) (r : List Int) (R1 : Nat → Row) (p : PV) : Prop :=
  ∃ v, p = .own 1000000 v ∧ R1 1000000 = ⟨v, .tab e (cellsT 1000000 (List.range M.length) ++ [.own 1000500 1])⟩ ∧ R1 1000500 = ⟨1, .sli e2 1 false (iL r)⟩ ∧ ∀ i, i < M.length → R1 (sid 1000000 i) = ⟨1, .sli e2 1 false (iL (M.getD i []))⟩
def APu [Held] (P : Program) (f : FuncId) (args : List PV) (e e2 : Nat) (M : Mat) (r : List Int) : Prop := AG P f args (inTH e e2 M r) (pushPost e e2 M r)
section
variable {e e2 : Nat} {M : Mat} {r : List Int}
theorem sid_H [Held] (i : Nat) : sid 1000000 i ≠ 1000500 := fun h => by rw [sid_eq] at h; omega
theorem inTH_top [Held] : inTH e e2 M r 1000000 = ⟨1, .tab e (cellsT 1000000 (List.range M.length))⟩ := by
  unfold inTH
  rw [if_neg (by decide)]
  have := inT_top (e := e) (e2 := e2) (rows := M.map iL)
  rw [List.length_map] at this
  exact this
theorem inTH_row [Held] {i : Nat} (h : i < M.length) : inTH e e2 M r (sid 1000000 i) = ⟨1, .sli e2 1 false (iL (M.getD i []))⟩ := by
  unfold inTH
  rw [if_neg (sid_H i), show sid 1000000 i = sid lent i from rfl, inT_row (by rw [List.length_map]; exact h), mapI_getD]
theorem inTH_H : inTH e e2 M r 1000500 = ⟨1, .sli e2 1 false (iL r)⟩ := if_pos rfl
theorem inTH_nd [Held] {k : Nat} (h : (inTH e e2 M r k).kind.nd = true) : k = 1000500 ∨ k = 1000000 ∨ ∃ i, i < M.length ∧ k = sid 1000000 i := by
  unfold inTH at h
  split at h
  · exact .inl ‹_›
  · rcases inT_nd h with h | ⟨i, hi, h⟩
    · exact .inr (.inl h)
    · exact .inr (.inr ⟨i, by rw [List.length_map] at hi; exact hi, h⟩)
theorem APu.go [Held] {P : Program} {T : Tab} {f : FuncId} {fn : Func} {c : Code} {rs : List ResultVar} {args : List PV} (hT : T.Ok P) (hm : P.follows .mixedOrders = true) (hf : P.funcs[f]? = some fn) (hname : (fn.name == "runtime.NumGoroutine") = false)
    (hb : fn.body = some c) (hr : fn.results.toList = rs) (hfit : (fits fn.ntmps c && decide (args.length ≤ fn.ntmps) && decide (fn.results.toList.length ≤ 4)) = true)
    (h : lens args → ∀ s : St, (∀ i, s.sl i = args.getD i .junk) → (∀ j, j < 1000000 → s.rw j = ⟨0, .dead⟩) → s.rw 1000000 = ⟨1, .tab e (cellsT 1000000 (List.range M.length))⟩ → s.rw 1000500 = ⟨1, .sli e2 1 false (iL r)⟩ →
      (∀ i, i < M.length → s.rw (sid 1000000 i) = ⟨1, .sli e2 1 false (iL (M.getD i []))⟩) → cwp P T c (endG T rs (pushPost e e2 M r)) s) : APu P f args e e2 M r := by
  refine AG.go hT hm hf hname hb hr hfit fun hl _ s hs hR => h hl s hs (fun j hj => ?_) (by rw [hR, inTH_top]) (by rw [hR, inTH_H]) fun i hi => by rw [hR, inTH_row hi]
  rw [hR]
  unfold inTH
  rw [if_neg (by omega)]
  exact inT_lo hj
theorem askPush_of [Held] {P : Program} {s : St} {K : St → Prop} {f : FuncId} {args raw lents : List PV} {Ka : RV → Prop} {d k h v vh : Nat} {us : Dm s} {u : Dm K} (hc : APu P f args e e2 M r)
    (hl : GvL (fun j => if j = 1000500 then some h else rhoK k M.length j) (fun _ => False) (inTH e e2 M r) s.rw args raw) (ht : TabH s.rw k v e e2 M.length M) (hr : s.rw h = ⟨vh, .sli e2 1 false (iL r)⟩) (hhk : (h % 1000 == k % 1000) = false)
    (hk : ∀ (S : St) (v' : Nat), S.rw k = ⟨v', .tab e (cellsT k (List.range M.length) ++ [.own h vh])⟩ → S.rw h = ⟨vh, .sli e2 1 false (iL r)⟩ → S.sl d = .own k v' → (∀ t, t ≠ d → S.sl t = s.sl t) → (∀ i, S.rw (sid k i) = s.rw (sid k i)) → (∀ j, (j % 1000 == k % 1000) = false → S.rw j = s.rw j) → K S) :
    askK P f lents Ka (askR P f lents raw (some d) (kk s us) (kk K u)) := by
  have hm := beq_eq_false_iff_ne.1 hhk
  have hg := ht.give (Ln := fun _ => False) fun _ h => h.elim
  have hlm : (M.map iL).length = M.length := List.length_map _
  have hrh : ∀ j x, rhoK k M.length j = some x → x ≠ h := fun j x hx e => by
    rcases rhoK_some hx with ⟨_, rfl⟩ | ⟨i, _, _, rfl⟩
    · exact hm (by rw [e])
    · exact hm (by rw [← e, sid_mod])
  have hcells : GvL (fun j => if j = 1000500 then some h else rhoK k M.length j) (fun _ => False) (inTH e e2 M r) s.rw (cellsT lent (List.range M.length)) (cellsT k (List.range M.length)) := by
    have : ∀ l : List Nat, (∀ j ∈ l, j < M.length) → GvL (fun j => if j = 1000500 then some h else rhoK k M.length j) (fun _ => False) (inTH e e2 M r) s.rw (cellsT lent l) (cellsT k l) := by
      intro l
      induction l with
      | nil => intro _; exact .nil
      | cons j l ih =>
        intro hj
        have h1 := hj j (by simp)
        refine .one (.own ?_ ?_ ?_ ?_) (ih fun x hx => hj x (by simp [hx]))
        · show (if sid 1000000 j = 1000500 then _ else _) = _
          rw [if_neg (sid_H j)]; exact rhoK_row k h1
        · exact congrArg Row.ver (inTH_row h1)
        · rw [ht.row j h1]
        · show (inTH e e2 M r (sid 1000000 j)).kind.slice = true
          rw [inTH_row h1]; rfl
    exact this _ fun j hj => List.mem_range.1 hj
  refine askG_of hc _ _ hl ⟨fun j hj => ?_, fun j j' i n1 n2 h1 h2 => ?_, fun _ _ _ _ h => h⟩ fun R1 p ⟨v1, hp, ht1, hH1, hrow1⟩ => ?_
  · rcases inTH_nd hj with rfl | rfl | ⟨i, hi, rfl⟩
    · refine ⟨by decide, by rw [inTH_H]; exact Nat.one_pos, h, if_pos rfl, ?_⟩
      rw [inTH_H, hr]
      exact ⟨rfl, rfl, rfl, plain_iL _⟩
    · refine ⟨Nat.le_refl _, by rw [inTH_top]; exact Nat.one_pos, k, ?_, ?_⟩
      · show (if (1000000 : Nat) = 1000500 then _ else _) = _
        rw [if_neg (by decide)]; exact rhoK_top _ _
      · rw [inTH_top]
        rcases ht.top with htt | ⟨h0, htt⟩
        · rw [htt]
          exact ⟨rfl, hcells⟩
        · rw [htt]
          exact ⟨rfl, rfl, by rw [h0]; rfl, rfl⟩
    · refine ⟨Nat.le_of_lt (sid_gt i).1, by rw [inTH_row hi]; exact Nat.one_pos, sid k i, ?_, ?_⟩
      · show (if sid 1000000 i = 1000500 then _ else _) = _
        rw [if_neg (sid_H i)]; exact rhoK_row k hi
      · rw [inTH_row hi, ht.row i hi]
        exact ⟨rfl, rfl, rfl, plain_iL _⟩
  · have h1 : (if j = 1000500 then some h else rhoK k M.length j) = some i := h1
    have h2 : (if j' = 1000500 then some h else rhoK k M.length j') = some i := h2
    by_cases a : j = 1000500
    · by_cases b : j' = 1000500
      · rw [a, b]
      · rw [if_pos a] at h1; rw [if_neg b] at h2
        cases h1
        exact absurd rfl (hrh _ _ h2)
    · by_cases b : j' = 1000500
      · rw [if_neg a] at h1; rw [if_pos b] at h2
        cases h2
        exact absurd rfl (hrh _ _ h1)
      · rw [if_neg a] at h1; rw [if_neg b] at h2
        rcases rhoK_some h1 with ⟨a1, a2⟩ | ⟨x, _, a1, a2⟩ <;> rcases rhoK_some h2 with ⟨b1, b2⟩ | ⟨y, _, b1, b2⟩
        · rw [a1, b1]
        · rw [a2] at b2; exact absurd b2.symm (sid_ne k y)
        · rw [a2] at b2; exact absurd b2 (sid_ne k x)
        · rw [a2] at b2; have := sid_inj' b2; subst this; rw [a1, b1]
  · subst hp
    let rho : Nat → Option Nat := fun j => if j = 1000500 then some h else rhoK k M.length j
    let nv : Nat → Nat := fun j => if j = 1000000 then (if v1 = 1 then v else v + 1) else if j = 1000500 then vh else 1
    have rT : rho 1000000 = some k := by show (if (1000000 : Nat) = 1000500 then _ else _) = _; rw [if_neg (by decide)]; exact rhoK_top _ _
    have rH : rho 1000500 = some h := if_pos rfl
    have rR : ∀ i, i < M.length → rho (sid 1000000 i) = some (sid k i) := fun i hi => by
      show (if sid 1000000 i = 1000500 then _ else _) = _
      rw [if_neg (sid_H i)]; exact rhoK_row k hi
    have nT : nv 1000000 = if v1 = 1 then v else v + 1 := if_pos rfl
    have nH : nv 1000500 = vh := by show (if (1000500 : Nat) = 1000000 then _ else _) = _; rw [if_neg (by decide), if_pos rfl]
    have nR : ∀ i, nv (sid 1000000 i) = 1 := fun i => by
      show (if sid 1000000 i = 1000000 then _ else if sid 1000000 i = 1000500 then _ else _) = _
      rw [if_neg (fun e => by rw [sid_eq] at e; omega), if_neg (sid_H i)]
    have some1 : ∀ j x, rho j = some x → (j = 1000500 ∧ x = h) ∨ (j = 1000000 ∧ x = k) ∨ ∃ i, i < M.length ∧ j = sid 1000000 i ∧ x = sid k i := fun j x hx => by
      have hx : (if j = 1000500 then some h else rhoK k M.length j) = some x := hx
      by_cases a : j = 1000500
      · rw [if_pos a] at hx; cases hx; exact .inl ⟨a, rfl⟩
      · rw [if_neg a] at hx
        exact .inr (rhoK_some hx)
    refine ⟨rho, nv, false, ⟨fun j _ => rfl, fun j j' x h1 h2 => ?_, fun j x hx hn1 hv => ?_, fun j x hx hn1 => ?_, fun h => by cases h⟩, fun S hS => ?_⟩
    · rcases some1 j x h1 with ⟨a1, a2⟩ | ⟨a1, a2⟩ | ⟨i, hi, a1, a2⟩ <;> rcases some1 j' x h2 with ⟨b1, b2⟩ | ⟨b1, b2⟩ | ⟨i', hi', b1, b2⟩
      · rw [a1, b1]
      · exact absurd (by rw [← a2, b2]) hm
      · exact absurd (by rw [← a2, b2, sid_mod]) hm
      · exact absurd (by rw [← a2, b2]) (Ne.symm hm)
      · rw [a1, b1]
      · rw [a2] at b2; exact absurd b2.symm (sid_ne k i')
      · exact absurd (by rw [← b2, a2, sid_mod]) hm
      · rw [a2] at b2; exact absurd b2 (sid_ne k i)
      · rw [a2] at b2; have := sid_inj' b2; subst this; rw [a1, b1]
    · rcases some1 j x hx with ⟨rfl, rfl⟩ | ⟨rfl, rfl⟩ | ⟨i, hi, rfl, rfl⟩
      · rw [nH, hr]
      · rw [ht1, inTH_top] at hv
        have hv : v1 = 1 := hv
        rw [nT, if_pos hv, ht.ver]
      · rw [nR, ht.row i hi]
    · rcases some1 j x hx with ⟨rfl, rfl⟩ | ⟨rfl, rfl⟩ | ⟨i, hi, rfl, rfl⟩
      · have hv := hn1 (by rw [inTH_H]; rfl)
        rw [hH1, inTH_H] at hv
        exact absurd rfl hv
      · have hv := hn1 (by rw [inTH_top]; rfl)
        rw [ht1, inTH_top] at hv
        have hv : ¬ v1 = 1 := hv
        rw [nT, if_neg hv, ht.ver]; omega
      · have hv := hn1 (by rw [inTH_row hi]; rfl)
        rw [hrow1 i hi, inTH_row hi] at hv
        exact absurd rfl hv
    · have hcell : (cellsT 1000000 (List.range M.length) ++ [PV.own 1000500 1]).map (ren1 rho R1 nv false) = cellsT k (List.range M.length) ++ [.own h vh] := by
        rw [List.map_append]
        congr 1
        · refine List.ext_getElem (by simp [cellsT]) fun i a b => ?_
          have hi : i < M.length := by simpa [cellsT] using a
          simp only [List.getElem_map, cellsT, List.getElem_range]
          have := renA_own rho R1 nv false (sid 1000000 i) 1
          rw [rR i hi, hrow1 i hi] at this
          simp only [beq_self_eq_true, nR] at this
          exact this
        · have := renA_own rho R1 nv false 1000500 1
          rw [rH, hH1] at this
          simp only [beq_self_eq_true, nH] at this
          exact congrArg (fun z => [z]) this
      refine hk S (nv 1000000) ?_ ?_ ?_ (fun t ht' => ?_) (fun i => ?_) fun j hj => ?_
      · rw [hS.row 1000000 k rT, ht1]
        show (⟨nv 1000000, .tab e _⟩ : Row) = _
        rw [hcell]
      · rw [hS.row _ _ rH, hH1, nH]; rfl
      · rw [hS.sl]
        show (s.put (some d) _).sl d = _
        rw [put_sl_same]
        have := renA_own rho R1 nv false 1000000 v1
        rw [rT, ht1] at this
        simp only [beq_self_eq_true] at this
        exact this
      · rw [hS.sl, put_sl_ne _ _ _ _ ht']
      · by_cases hi : i < M.length
        · rw [hS.row _ _ (rR i hi), hrow1 i hi, nR, ht.row i hi]; rfl
        · refine hS.off _ fun j' hx => ?_
          rcases some1 j' _ hx with ⟨_, h2⟩ | ⟨_, h2⟩ | ⟨x, hx', _, h2⟩
          · exact hm (by rw [← h2, sid_mod])
          · exact sid_ne k i h2
          · have := sid_inj' h2; omega
      · by_cases e : j = h
        · subst e; rw [hS.row _ _ rH, hH1, nH, hr]; rfl
        · refine hS.off j fun j' hx => beq_eq_false_iff_ne.1 hj ?_
          rcases some1 j' _ hx with ⟨_, h2⟩ | ⟨_, h2⟩ | ⟨x, hx', _, h2⟩
          · exact absurd h2 e
          · rw [h2]
          · rw [h2, sid_mod]
end
end Go.Abs

/- DERIVED by an AI agent. A slice that a variable's cell stands for gets another number. No program in sight. -/
namespace Go.Abs
set_option linter.unusedSimpArgs false
set_option linter.unusedVariables false
theorem Wk.moveB [Held] {s : St} {j t v N M e sz b vb tb o : Nat} {c cb : List PV} (hd : s.rw j = ⟨v, .sli e sz false c⟩) (hjt : j ≠ t) (hjl : j < lent) (hN : (s.rw t).ver < N) (hM : v ≤ M)
    (hb : s.rw b = ⟨vb, .box tb cb⟩) (ho : cb[o]? = some (.own j v)) (hbj : b ≠ j) (hbt : b ≠ t) :
    Wk s (((s.row j ⟨M, .dead⟩).row t ⟨N, .sli e sz false c⟩).row b ⟨vb, .box tb (cb.set o (.own t N))⟩) := by
  intro G a w ⟨E, hs⟩
  have hRd : E.R j = ⟨v, .sli e sz false c⟩ := by rw [hs.rw]; exact hd
  have hRt : (E.R t).ver < N := by rw [hs.rw]; exact hN
  have hRb : E.R b = ⟨vb, .box tb cb⟩ := by rw [hs.rw]; exact hb
  let R' : Nat → Row := updF (updF (updF E.R j ⟨M, .dead⟩) t ⟨N, .sli e sz false c⟩) b ⟨vb, .box tb (cb.set o (.own t N))⟩
  let rm' : Nat → Option Nat := updF (updF E.rm j none) t (E.rm j)
  let rv' : Nat → Value := updF E.rv t (E.rv j)
  let E' : Env := { R := R', rm := rm', rv := rv', L := mkL E.X R' rm', B := E.B, X := E.X }
  have Rb : E'.R b = ⟨vb, .box tb (cb.set o (.own t N))⟩ := updF_same _ _ _
  have Rt : E'.R t = ⟨N, .sli e sz false c⟩ := by show R' t = _; simp only [R']; rw [updF_other _ _ (Ne.symm hbt), updF_same]
  have Rj : E'.R j = ⟨M, .dead⟩ := by show R' j = _; simp only [R']; rw [updF_other _ _ (Ne.symm hbj), updF_other _ _ hjt, updF_same]
  have Ro : ∀ i, i ≠ j → i ≠ t → i ≠ b → E'.R i = E.R i := fun i h1 h2 h3 => by show R' i = _; simp only [R']; rw [updF_other _ _ h3, updF_other _ _ h2, updF_other _ _ h1]
  have Rk : ∀ i, i ≠ j → i ≠ t → (E'.R i).ver = (E.R i).ver ∧ (E'.R i).kind.nd = (E.R i).kind.nd ∧ (E'.R i).kind.live = (E.R i).kind.live ∧ (E'.R i).kind.slice = (E.R i).kind.slice := fun i h1 h2 => by
    by_cases h3 : i = b
    · subst h3; rw [Rb, hRb]; exact ⟨rfl, rfl, rfl, rfl⟩
    · rw [Ro i h1 h2 h3]; exact ⟨rfl, rfl, rfl, rfl⟩
  have Mt : E'.rm t = E.rm j := updF_same _ _ _
  have Mj : E'.rm j = none := by show rm' j = _; simp only [rm']; rw [updF_other _ _ hjt, updF_same]
  have Mo : ∀ i, i ≠ j → i ≠ t → E'.rm i = E.rm i := fun i h1 h2 => by show rm' i = _; simp only [rm']; rw [updF_other _ _ h2, updF_other _ _ h1]
  have Vt : E'.rv t = E.rv j := updF_same _ _ _
  have Vo : ∀ i, i ≠ t → E'.rv i = E.rv i := fun i h => updF_other _ _ h
  have hL : ∀ b, E'.L b → E.L b := by
    intro b h
    rw [hs.wok.live]
    rcases h with ⟨i, h1, h2⟩ | hX
    rotate_left
    · exact .inr hX
    refine .inl ?_
    have h1 : E'.rm i = some b := h1
    have h2 : (E'.R i).kind.live = true := h2
    by_cases it : i = t
    · subst it; rw [Mt] at h1; exact ⟨j, h1, by rw [hRd]; rfl⟩
    · by_cases ij : i = j
      · subst ij; rw [Mj] at h1; cases h1
      · rw [Mo i ij it] at h1; rw [(Rk i ij it).2.2.1] at h2; exact ⟨i, h1, h2⟩
  have hl : Lasts w w E E' := by
    refine ⟨fun b _ h => ⟨rfl, fun h' => h (hL b h')⟩, fun i => ?_, fun i he hs' => ?_, fun i he hs' => ?_, Nat.le_refl _⟩
    all_goals
      by_cases it : i = t
      · subst it
        first
          | (rw [Rt]; exact Nat.le_of_lt hRt)
          | (rw [Rt] at he; have he : N = (E.R i).ver := he; omega)
      · by_cases ij : i = j
        · subst ij
          first
            | (rw [Rj, hRd]; exact hM)
            | (rw [Rj] at hs'; cases hs')
        · first
            | (rw [(Rk i ij it).1]; exact Nat.le_refl _)
            | (rw [(Rk i ij it).2.2.2] at hs'; exact ⟨hs', Vo i it⟩)
            | (rw [(Rk i ij it).2.1] at hs'; exact ⟨hs', Mo i ij it⟩)
  have hwok : WOk G E' w := by
    refine ⟨fun i => ?_, fun i i' b n1 n2 e1 e2 => ?_, fun b => Iff.rfl, fun i hn => ?_, hs.wok.base, hs.wok.xs, hs.wok.fx, fun i b hn hb => ?_, hs.wok.kept, fun i => ?_⟩
    · by_cases it : i = t
      · subst it
        have hrow := hs.wok.rows j
        unfold RowOk at hrow ⊢
        rw [hRd] at hrow
        rw [Rt, Mt, Vt]
        rcases hrow with h | ⟨b, n, cap, vs, rest, h1, h2, h3, h4, h5, h6, h7, h8, h9⟩
        · exact .inl h
        · refine .inr ⟨b, n, cap, vs, rest, h1, ?_, h3, h4, h5, h6, h7, h8, h9.mono hl.bare (Nat.le_refl _)⟩
          rcases h2 with h2 | h2
          · exact .inl h2
          · exact absurd h2.1 (by omega)
      · by_cases ij : i = j
        · subst ij; unfold RowOk; rw [Rj]; trivial
        · have hrow := hs.wok.rows i
          unfold RowOk at hrow ⊢
          by_cases ib : i = b
          · subst ib
            rw [hRb] at hrow
            rw [Rb, Mo i ij it]
            obtain ⟨b', vs, h1, h2, h3, h4⟩ := hrow
            refine ⟨b', vs, h1, h2, h3, by simp [h4.1], fun x a' b'' => ?_⟩
            have hx : x < cb.length := by simpa using a'
            rw [List.getElem_set]
            by_cases hxo : o = x
            · subst hxo
              rw [if_pos rfl]
              have h0 := h4.2 o hx b''
              have : cb[o] = .own j v := (List.getElem?_eq_some_iff.1 ho).2
              rw [this] at h0
              exact own_moved hRd Rt Vt h0
            · rw [if_neg hxo]
              exact (h4.2 x hx b'').mono hl (Nat.le_refl _)
          · rw [Ro i ij it ib, Mo i ij it, Vo i it]
            cases hkd : (E.R i).kind with
            | dead => trivial
            | nil => simpa only [hkd] using hrow
            | box t cells =>
              simp only [hkd] at hrow ⊢
              obtain ⟨b, vs, h1, h2, h3, h4⟩ := hrow
              exact ⟨b, vs, h1, h2, h3, h4.mono hl (Nat.le_refl _)⟩
            | sli e sz fz cells =>
              simp only [hkd] at hrow ⊢
              rcases hrow with h | ⟨b, n, cap, vs, rest, h1, h2, h3, h4, h5, h6, h7, h8, h9⟩
              · exact .inl h
              · exact .inr ⟨b, n, cap, vs, rest, h1, h2, h3, h4, h5, h6, h7, h8, h9.mono hl.bare (Nat.le_refl _)⟩
            | tab e cells =>
              simp only [hkd] at hrow ⊢
              rcases hrow with h | ⟨b, n, cap, vs, rest, h1, h2, h3, h4, h5, h6, h7, h8, h9⟩
              · exact .inl h
              · exact .inr ⟨b, n, cap, vs, rest, h1, h2, h3, h4, h5, h6, h7, h8, h9.mono hl (Nat.le_refl _)⟩
    · have back : ∀ i b, (E'.R i).kind.nd = true → E'.rm i = some b → (E.R (if i = t then j else i)).kind.nd = true ∧ E.rm (if i = t then j else i) = some b ∧ i ≠ j := by
        intro i b hn hm
        by_cases it : i = t
        · subst it; rw [if_pos rfl]; rw [Mt] at hm; exact ⟨by rw [hRd]; rfl, hm, Ne.symm hjt⟩
        · rw [if_neg it]
          have ij : i ≠ j := fun e => by subst e; rw [Mj] at hm; cases hm
          rw [Mo i ij it] at hm
          exact ⟨by rw [← (Rk i ij it).2.1]; exact hn, hm, ij⟩
      obtain ⟨a1, a2, a3⟩ := back i b n1 e1
      obtain ⟨b1, b2, b3⟩ := back i' b n2 e2
      have := hs.wok.inj _ _ b a1 b1 a2 b2
      by_cases it : i = t
      · by_cases it2 : i' = t
        · rw [it, it2]
        · rw [if_pos it, if_neg it2] at this; exact absurd this.symm b3
      · by_cases it2 : i' = t
        · rw [if_neg it, if_pos it2] at this; exact absurd this a3
        · rw [if_neg it, if_neg it2] at this; exact this
    · by_cases it : i = t
      · subst it; rw [Rt]; exact Nat.lt_of_le_of_lt (Nat.zero_le _) hRt
      · by_cases ij : i = j
        · subst ij; rw [Rj] at hn; cases hn
        · rw [(Rk i ij it).2.1] at hn; rw [(Rk i ij it).1]; exact hs.wok.pos i hn
    · by_cases it : i = t
      · subst it; rw [Mt] at hb; exact hs.wok.apart j b (by rw [hRd]; rfl) hb
      · by_cases ij : i = j
        · subst ij; rw [Mj] at hb; cases hb
        · rw [Mo i ij it] at hb; rw [(Rk i ij it).2.1] at hn; exact hs.wok.apart i b hn hb
    · obtain ⟨p1, p2⟩ := hs.wok.pin i
      by_cases it : i = t
      · subst it
        rw [Rt]
        exact ⟨Nat.le_trans p1 (Nat.le_of_lt hRt), fun h => by have h : N = (G.pR i).ver := h; omega⟩
      · by_cases ij : i = j
        · subst ij
          rw [Rj]
          rw [hRd] at p1
          exact ⟨Nat.le_trans p1 hM, fun h h' => by cases h'⟩
        · rw [(Rk i ij it).1, (Rk i ij it).2.1, (Rk i ij it).2.2.2, Mo i ij it, Vo i it]; exact ⟨p1, p2⟩
  refine ⟨E', ?_, hwok, hs.size, hs.defers, fun i => (hs.slots i).mono hl (Nat.le_refl _)⟩
  show R' = _
  simp only [R', hs.rw]
  rfl
section
variable {s : St} {j t v N e sz b vb tb o : Nat} {c cb cb' : List PV} {Q : AX → St → Prop}
theorem Wk.moveB' [Held] (hd : s.rw j = ⟨v, .sli e sz false c⟩) (hb : s.rw b = ⟨vb, .box tb cb⟩) (ho : cb[o]? = some (.own j v)) (t N : Nat) (hN : (s.rw t).ver < N) (hcb : cb.set o (.own t N) = cb') (hjl : j < lent) (hjt : (j == t) = false) (hbj : (b == j) = false) (hbt : (b == t) = false) :
    ∃ s', Wk s s' ∧ (s'.rw t = ⟨N, .sli e sz false c⟩ ∧ s'.rw b = ⟨vb, .box tb cb'⟩) ∧ s'.sl = s.sl ∧ ∀ i, (i % 1000 == j % 1000) = false → (i % 1000 == t % 1000) = false → (i % 1000 == b % 1000) = false → s'.rw i = s.rw i := by
  have hjt := beq_eq_false_iff_ne.1 hjt
  have hbj := beq_eq_false_iff_ne.1 hbj
  have hbt := beq_eq_false_iff_ne.1 hbt
  refine ⟨_, Wk.moveB hd hjt hjl hN (Nat.le_refl _) hb ho hbj hbt, ⟨?_, by rw [hcb, row_rw_same]⟩, rfl, fun i h1 h2 h3 => ?_⟩
  · rw [row_rw_ne _ _ _ _ (Ne.symm hbt), row_rw_same]
  · rw [row_rw_ne _ _ _ _ (fun e => beq_eq_false_iff_ne.1 h3 (by rw [e])), row_rw_ne _ _ _ _ (fun e => beq_eq_false_iff_ne.1 h2 (by rw [e])), row_rw_ne _ _ _ _ (fun e => beq_eq_false_iff_ne.1 h1 (by rw [e]))]
theorem loop_mvb [Held] {α : Type} (hd : s.rw j = ⟨v, .sli e sz false c⟩) (hb : s.rw b = ⟨vb, .box tb cb⟩) (ho : cb[o]? = some (.own j v)) (t N : Nat) (hN : (s.rw t).ver < N) (hcb : cb.set o (.own t N) = cb') (hjl : j < lent) (hjt : (j == t) = false) (hbj : (b == j) = false) (hbt : (b == t) = false)
    (I : α → St → Prop) (μ : α → Nat) (x0 : α) {bd : (AX → St → Prop) → St → Prop} {u : Dm bd} {w : Dm Q}
    (h0 : ∀ s', (s'.rw t = ⟨N, .sli e sz false c⟩ ∧ s'.rw b = ⟨vb, .box tb cb'⟩) → s'.sl = s.sl → (∀ i, (i % 1000 == j % 1000) = false → (i % 1000 == t % 1000) = false → (i % 1000 == b % 1000) = false → s'.rw i = s.rw i) → I x0 s') (h : ∀ x s1, I x s1 → bd (AX.seq (again I μ (μ x)) Q) s1) : loopK (kk bd u) (kk Q w) s := by
  obtain ⟨s', h1, h2, h3, h4⟩ := Wk.moveB' hd hb ho t N hN hcb hjl hjt hbj hbt
  exact ⟨α, I, μ, ⟨x0, s', h1, h0 s' h2 h3 h4⟩, h⟩
theorem again_mvb [Held] {α : Type} {I : α → St → Prop} {μ : α → Nat} {m : Nat} (hd : s.rw j = ⟨v, .sli e sz false c⟩) (hb : s.rw b = ⟨vb, .box tb cb⟩) (ho : cb[o]? = some (.own j v)) (t N : Nat) (hN : (s.rw t).ver < N) (hcb : cb.set o (.own t N) = cb') (hjl : j < lent) (hjt : (j == t) = false) (hbj : (b == j) = false) (hbt : (b == t) = false)
    (x' : α) (h0 : ∀ s', (s'.rw t = ⟨N, .sli e sz false c⟩ ∧ s'.rw b = ⟨vb, .box tb cb'⟩) → s'.sl = s.sl → (∀ i, (i % 1000 == j % 1000) = false → (i % 1000 == t % 1000) = false → (i % 1000 == b % 1000) = false → s'.rw i = s.rw i) → I x' s') (hm : μ x' < m) : again I μ m s := by
  obtain ⟨s', h1, h2, h3, h4⟩ := Wk.moveB' hd hb ho t N hN hcb hjl hjt hbj hbt
  exact again_wk x' h1 (h0 s' h2 h3 h4) hm
theorem Wk.moveS' [Held] {d : Nat} (hd : s.rw j = ⟨v, .sli e sz false c⟩) (hsl : s.sl d = .own j v) (t N : Nat) (hN : (s.rw t).ver < N) (hjl : j < lent) (hjt : (j == t) = false) :
    ∃ s', Wk s s' ∧ s'.rw t = ⟨N, .sli e sz false c⟩ ∧ s'.sl = (s.put (some d) (.own t N)).sl ∧ ∀ i, (i % 1000 == j % 1000) = false → (i % 1000 == t % 1000) = false → s'.rw i = s.rw i := by
  have hjt := beq_eq_false_iff_ne.1 hjt
  refine ⟨_, Wk.moveS hd hjt hjl hN (Nat.le_refl _) hsl, by rw [put_rw, row_rw_same], rfl, fun i h1 h2 => ?_⟩
  rw [put_rw, row_rw_ne _ _ _ _ (fun e => beq_eq_false_iff_ne.1 h2 (by rw [e])), row_rw_ne _ _ _ _ (fun e => beq_eq_false_iff_ne.1 h1 (by rw [e]))]
theorem loop_mvs [Held] {α : Type} {d : Nat} (hd : s.rw j = ⟨v, .sli e sz false c⟩) (hsl : s.sl d = .own j v) (t N : Nat) (hN : (s.rw t).ver < N) (hjl : j < lent) (hjt : (j == t) = false)
    (I : α → St → Prop) (μ : α → Nat) (x0 : α) {bd : (AX → St → Prop) → St → Prop} {u : Dm bd} {w : Dm Q}
    (h0 : ∀ s', s'.rw t = ⟨N, .sli e sz false c⟩ → s'.sl = (s.put (some d) (.own t N)).sl → (∀ i, (i % 1000 == j % 1000) = false → (i % 1000 == t % 1000) = false → s'.rw i = s.rw i) → I x0 s') (h : ∀ x s1, I x s1 → bd (AX.seq (again I μ (μ x)) Q) s1) : loopK (kk bd u) (kk Q w) s := by
  obtain ⟨s', h1, h2, h3, h4⟩ := Wk.moveS' hd hsl t N hN hjl hjt
  exact ⟨α, I, μ, ⟨x0, s', h1, h0 s' h2 h3 h4⟩, h⟩
theorem again_mvs [Held] {α : Type} {I : α → St → Prop} {μ : α → Nat} {m d : Nat} (hd : s.rw j = ⟨v, .sli e sz false c⟩) (hsl : s.sl d = .own j v) (t N : Nat) (hN : (s.rw t).ver < N) (hjl : j < lent) (hjt : (j == t) = false)
    (x' : α) (h0 : ∀ s', s'.rw t = ⟨N, .sli e sz false c⟩ → s'.sl = (s.put (some d) (.own t N)).sl → (∀ i, (i % 1000 == j % 1000) = false → (i % 1000 == t % 1000) = false → s'.rw i = s.rw i) → I x' s') (hm : μ x' < m) : again I μ m s := by
  obtain ⟨s', h1, h2, h3, h4⟩ := Wk.moveS' hd hsl t N hN hjl hjt
  exact again_wk x' h1 (h0 s' h2 h3 h4) hm
end
end Go.Abs

/- DERIVED by an AI agent. Loops at whose turn a table is written no more. No program in sight. -/
namespace Go.Abs
set_option linter.unusedSimpArgs false
set_option linter.unusedVariables false
section
variable {s : St} {k v e e2 d : Nat} {q : List Nat} {M : Mat} {Q : AX → St → Prop}
theorem killF_off [Held] {R : Nat → Row} {j : Nat} (h : (j % 1000 == k % 1000) = false) : killF R k q j = R j := by
  refine killF_out fun hj => beq_eq_false_iff_ne.1 h ?_
  rcases hj with rfl | ⟨x, _, rfl⟩
  · rfl
  · exact sid_mod _ _
theorem again_flat [Held] {α : Type} {I : α → St → Prop} {μ : α → Nat} {m : Nat} (ht : TabI s.rw k v e e2 q M) (hk : k < lent) (hq : ∀ j ∈ q, sid k j < lent) (hd : s.sl d = .own k v) (x' : α)
    (h0 : ∀ s', s'.sl d = .sl true 1 (iLL M) → (∀ t, (t == d) = false → s'.sl t = s.sl t) → (∀ j, (j % 1000 == k % 1000) = false → s'.rw j = s.rw j) → I x' s') (hm : μ x' < m) : again I μ m s := by
  refine again_wk x' (Wk.flat ht hk hq hd) (h0 _ (put_sl_same _ _ _) (fun t ht => put_sl_ne _ _ _ _ (beq_eq_false_iff_ne.1 ht)) fun j hj => ?_) hm
  rw [put_rw]; exact killF_off hj
theorem loop_nilrow [Held] {α : Type} {n : Nat} (hr : s.rw k = ⟨v, .sli e 1 false (List.replicate n (.v (.slice none 0 0)))⟩) (hk : k < lent) (hd : s.sl d = .own k v)
    (I : α → St → Prop) (μ : α → Nat) (x0 : α) {bd : (AX → St → Prop) → St → Prop} {u : Dm bd} {w : Dm Q}
    (h0 : ∀ s', s'.sl d = .sl true 1 (iLL (List.replicate n [])) → (∀ t, (t == d) = false → s'.sl t = s.sl t) → (∀ j, (j % 1000 == k % 1000) = false → s'.rw j = s.rw j) → I x0 s') (h : ∀ x s1, I x s1 → bd (AX.seq (again I μ (μ x)) Q) s1) : loopK (kk bd u) (kk Q w) s := by
  have h1 := Wk.flatRow hr hk hd
  have h2 := Wk.recell (s := (s.killed k []).put (some d) (.sl true 1 (List.replicate n (.v (.slice none 0 0))))) (d := d) (fr := true) (n := n) (put_sl_same _ _ _)
  refine ⟨α, I, μ, ⟨x0, _, h1.trans h2, h0 _ ?_ (fun t ht => ?_) fun j hj => ?_⟩, h⟩
  · rw [put_sl_same]; simp [iLL, iL]
  · have := beq_eq_false_iff_ne.1 ht
    rw [put_sl_ne _ _ _ _ this, put_sl_ne _ _ _ _ this]; rfl
  · rw [put_rw, put_rw]; exact killF_off hj
end
theorem adopt_imsl (s : St) (d : Nat) (fr : Bool) (sz : Nat) (c : List PV) : adoptSt s d (.im (.sl fr sz c)) = s.put (some d) (.sl true sz c) := by
  unfold adoptSt leaves adopt2 adopt0 setIf; rfl
end Go.Abs
