/- DERIVED by an AI agent. -/
import Derived.Test.YtpnknaaehcljoaaA16
import Derived.Shelf.SlSortCmp.Whole1
import Derived.Shelf.SlSortCmp.NoneTotal
/- DERIVED by an AI agent. Functions that put a slice that they are given behind a table that they are given. No program in sight. -/
namespace Go.Abs
set_option linter.unusedSimpArgs false
set_option linter.unusedVariables false

/-- A table and a slice beside it. -/
def inTH (e e2 : Nat) (M : Mat) (r : List Int) (k : Nat) : Row := if k = 1000500 then ⟨1, .sli e2 1 false (iL r)⟩ else inT e e2 (M.map iL) k
def pushPost (e e2 : Nat) (M : Mat) (r : List Int) (R1 : Nat → Row) (p : PV) : Prop :=
  ∃ v, p = .own 1000000 v ∧ R1 1000000 = ⟨v, .tab e (cellsT 1000000 (List.range M.length) ++ [.own 1000500 1])⟩ ∧ R1 1000500 = ⟨1, .sli e2 1 false (iL r)⟩ ∧ ∀ i, i < M.length → R1 (sid 1000000 i) = ⟨1, .sli e2 1 false (iL (M.getD i []))⟩
def APu [Held] (P : Program) (f : FuncId) (args : List PV) (e e2 : Nat) (M : Mat) (r : List Int) : Prop := AG P f args (inTH e e2 M r) (pushPost e e2 M r)
section
variable {e e2 : Nat} {M : Mat} {r : List Int}
theorem sid_H [Held] (i : Nat) : sid 1000000 i ≠ 1000500 := fun h => by rw [sid_eq] at h; omega
theorem inTH_top [Held] : inTH e e2 M r 1000000 = ⟨1, .tab e (cellsT 1000000 (List.range M.length))⟩ := by
  unfold inTH
  rw [if_neg (by decide)]
  have := inT_top (e := e) (e2 := e2) (rows := M.map iL)
  rw [List.length_map] at this
  exact this
theorem inTH_row [Held] {i : Nat} (h : i < M.length) : inTH e e2 M r (sid 1000000 i) = ⟨1, .sli e2 1 false (iL (M.getD i []))⟩ := by
  unfold inTH
  rw [if_neg (sid_H i), show sid 1000000 i = sid lent i from rfl, inT_row (by rw [List.length_map]; exact h), mapI_getD]
theorem inTH_H : inTH e e2 M r 1000500 = ⟨1, .sli e2 1 false (iL r)⟩ := if_pos rfl
theorem inTH_nd [Held] {k : Nat} (h : (inTH e e2 M r k).kind.nd = true) : k = 1000500 ∨ k = 1000000 ∨ ∃ i, i < M.length ∧ k = sid 1000000 i := by
  unfold inTH at h
  split at h
  · exact .inl ‹_›
  · rcases inT_nd h with h | ⟨i, hi, h⟩
    · exact .inr (.inl h)
    · exact .inr (.inr ⟨i, by rw [List.length_map] at hi; exact hi, h⟩)
/-- Such a function's contract, from its text. -/
theorem APu.go [Held] {P : Program} {T : Tab} {f : FuncId} {fn : Func} {c : Code} {rs : List ResultVar} {args : List PV} (hT : T.Ok P) (hm : P.follows .mixedOrders = true) (hf : P.funcs[f]? = some fn) (hname : (fn.name == "runtime.NumGoroutine") = false)
    (hb : fn.body = some c) (hr : fn.results.toList = rs) (hfit : (fits fn.ntmps c && decide (args.length ≤ fn.ntmps) && decide (fn.results.toList.length ≤ 4)) = true)
    (h : lens args → ∀ s : St, (∀ i, s.sl i = args.getD i .junk) → (∀ j, j < 1000000 → s.rw j = ⟨0, .dead⟩) → s.rw 1000000 = ⟨1, .tab e (cellsT 1000000 (List.range M.length))⟩ → s.rw 1000500 = ⟨1, .sli e2 1 false (iL r)⟩ →
      (∀ i, i < M.length → s.rw (sid 1000000 i) = ⟨1, .sli e2 1 false (iL (M.getD i []))⟩) → cwp P T c (endG T rs (pushPost e e2 M r)) s) : APu P f args e e2 M r := by
  refine AG.go hT hm hf hname hb hr hfit fun hl _ s hs hR => h hl s hs (fun j hj => ?_) (by rw [hR, inTH_top]) (by rw [hR, inTH_H]) fun i hi => by rw [hR, inTH_row hi]
  rw [hR]
  unfold inTH
  rw [if_neg (by omega)]
  exact inT_lo hj
/-- A call of such a function. -/
theorem askPush_of [Held] {P : Program} {s : St} {K : St → Prop} {f : FuncId} {args raw lents : List PV} {Ka : RV → Prop} {d k h v vh : Nat} {us : Dm s} {u : Dm K} (hc : APu P f args e e2 M r)
    (hl : GvL (fun j => if j = 1000500 then some h else rhoK k M.length j) (fun _ => False) (inTH e e2 M r) s.rw args raw) (ht : TabH s.rw k v e e2 M.length M) (hr : s.rw h = ⟨vh, .sli e2 1 false (iL r)⟩) (hhk : (h % 1000 == k % 1000) = false)
    (hk : ∀ (S : St) (v' : Nat), S.rw k = ⟨v', .tab e (cellsT k (List.range M.length) ++ [.own h vh])⟩ → S.rw h = ⟨vh, .sli e2 1 false (iL r)⟩ → S.sl d = .own k v' → (∀ t, t ≠ d → S.sl t = s.sl t) → (∀ i, S.rw (sid k i) = s.rw (sid k i)) → (∀ j, (j % 1000 == k % 1000) = false → S.rw j = s.rw j) → K S) :
    askK P f lents Ka (askR P f lents raw (some d) (kk s us) (kk K u)) := by
  have hm := beq_eq_false_iff_ne.1 hhk
  have hg := ht.give (Ln := fun _ => False) fun _ h => h.elim
  have hlm : (M.map iL).length = M.length := List.length_map _
  have hrh : ∀ j x, rhoK k M.length j = some x → x ≠ h := fun j x hx e => by
    rcases rhoK_some hx with ⟨_, rfl⟩ | ⟨i, _, _, rfl⟩
    · exact hm (by rw [e])
    · exact hm (by rw [← e, sid_mod])
  have hcells : GvL (fun j => if j = 1000500 then some h else rhoK k M.length j) (fun _ => False) (inTH e e2 M r) s.rw (cellsT lent (List.range M.length)) (cellsT k (List.range M.length)) := by
    have : ∀ l : List Nat, (∀ j ∈ l, j < M.length) → GvL (fun j => if j = 1000500 then some h else rhoK k M.length j) (fun _ => False) (inTH e e2 M r) s.rw (cellsT lent l) (cellsT k l) := by
      intro l
      induction l with
      | nil => intro _; exact .nil
      | cons j l ih =>
        intro hj
        have h1 := hj j (by simp)
        refine .one (.own ?_ ?_ ?_ ?_) (ih fun x hx => hj x (by simp [hx]))
        · show (if sid 1000000 j = 1000500 then _ else _) = _
          rw [if_neg (sid_H j)]; exact rhoK_row k h1
        · exact congrArg Row.ver (inTH_row h1)
        · rw [ht.row j h1]
        · show (inTH e e2 M r (sid 1000000 j)).kind.slice = true
          rw [inTH_row h1]; rfl
    exact this _ fun j hj => List.mem_range.1 hj
  refine askG_of hc _ _ hl ⟨fun j hj => ?_, fun j j' i n1 n2 h1 h2 => ?_, fun _ _ _ _ h => h⟩ fun R1 p ⟨v1, hp, ht1, hH1, hrow1⟩ => ?_
  · rcases inTH_nd hj with rfl | rfl | ⟨i, hi, rfl⟩
    · refine ⟨by decide, by rw [inTH_H]; exact Nat.one_pos, h, if_pos rfl, ?_⟩
      rw [inTH_H, hr]
      exact ⟨rfl, rfl, rfl, plain_iL _⟩
    · refine ⟨Nat.le_refl _, by rw [inTH_top]; exact Nat.one_pos, k, ?_, ?_⟩
      · show (if (1000000 : Nat) = 1000500 then _ else _) = _
        rw [if_neg (by decide)]; exact rhoK_top _ _
      · rw [inTH_top]
        rcases ht.top with htt | ⟨h0, htt⟩
        · rw [htt]
          exact ⟨rfl, hcells⟩
        · rw [htt]
          exact ⟨rfl, rfl, by rw [h0]; rfl, rfl⟩
    · refine ⟨Nat.le_of_lt (sid_gt i).1, by rw [inTH_row hi]; exact Nat.one_pos, sid k i, ?_, ?_⟩
      · show (if sid 1000000 i = 1000500 then _ else _) = _
        rw [if_neg (sid_H i)]; exact rhoK_row k hi
      · rw [inTH_row hi, ht.row i hi]
        exact ⟨rfl, rfl, rfl, plain_iL _⟩
  · have h1 : (if j = 1000500 then some h else rhoK k M.length j) = some i := h1
    have h2 : (if j' = 1000500 then some h else rhoK k M.length j') = some i := h2
    by_cases a : j = 1000500
    · by_cases b : j' = 1000500
      · rw [a, b]
      · rw [if_pos a] at h1; rw [if_neg b] at h2
        cases h1
        exact absurd rfl (hrh _ _ h2)
    · by_cases b : j' = 1000500
      · rw [if_neg a] at h1; rw [if_pos b] at h2
        cases h2
        exact absurd rfl (hrh _ _ h1)
      · rw [if_neg a] at h1; rw [if_neg b] at h2
        rcases rhoK_some h1 with ⟨a1, a2⟩ | ⟨x, _, a1, a2⟩ <;> rcases rhoK_some h2 with ⟨b1, b2⟩ | ⟨y, _, b1, b2⟩
        · rw [a1, b1]
        · rw [a2] at b2; exact absurd b2.symm (sid_ne k y)
        · rw [a2] at b2; exact absurd b2 (sid_ne k x)
        · rw [a2] at b2; have := sid_inj' b2; subst this; rw [a1, b1]
  · subst hp
    let rho : Nat → Option Nat := fun j => if j = 1000500 then some h else rhoK k M.length j
    let nv : Nat → Nat := fun j => if j = 1000000 then (if v1 = 1 then v else v + 1) else if j = 1000500 then vh else 1
    have rT : rho 1000000 = some k := by show (if (1000000 : Nat) = 1000500 then _ else _) = _; rw [if_neg (by decide)]; exact rhoK_top _ _
    have rH : rho 1000500 = some h := if_pos rfl
    have rR : ∀ i, i < M.length → rho (sid 1000000 i) = some (sid k i) := fun i hi => by
      show (if sid 1000000 i = 1000500 then _ else _) = _
      rw [if_neg (sid_H i)]; exact rhoK_row k hi
    have nT : nv 1000000 = if v1 = 1 then v else v + 1 := if_pos rfl
    have nH : nv 1000500 = vh := by show (if (1000500 : Nat) = 1000000 then _ else _) = _; rw [if_neg (by decide), if_pos rfl]
    have nR : ∀ i, nv (sid 1000000 i) = 1 := fun i => by
      show (if sid 1000000 i = 1000000 then _ else if sid 1000000 i = 1000500 then _ else _) = _
      rw [if_neg (fun e => by rw [sid_eq] at e; omega), if_neg (sid_H i)]
    have some1 : ∀ j x, rho j = some x → (j = 1000500 ∧ x = h) ∨ (j = 1000000 ∧ x = k) ∨ ∃ i, i < M.length ∧ j = sid 1000000 i ∧ x = sid k i := fun j x hx => by
      have hx : (if j = 1000500 then some h else rhoK k M.length j) = some x := hx
      by_cases a : j = 1000500
      · rw [if_pos a] at hx; cases hx; exact .inl ⟨a, rfl⟩
      · rw [if_neg a] at hx
        exact .inr (rhoK_some hx)
    refine ⟨rho, nv, false, ⟨fun j _ => rfl, fun j j' x h1 h2 => ?_, fun j x hx hn1 hv => ?_, fun j x hx hn1 => ?_, fun h => by cases h⟩, fun S hS => ?_⟩
    · rcases some1 j x h1 with ⟨a1, a2⟩ | ⟨a1, a2⟩ | ⟨i, hi, a1, a2⟩ <;> rcases some1 j' x h2 with ⟨b1, b2⟩ | ⟨b1, b2⟩ | ⟨i', hi', b1, b2⟩
      · rw [a1, b1]
      · exact absurd (by rw [← a2, b2]) hm
      · exact absurd (by rw [← a2, b2, sid_mod]) hm
      · exact absurd (by rw [← a2, b2]) (Ne.symm hm)
      · rw [a1, b1]
      · rw [a2] at b2; exact absurd b2.symm (sid_ne k i')
      · exact absurd (by rw [← b2, a2, sid_mod]) hm
      · rw [a2] at b2; exact absurd b2 (sid_ne k i)
      · rw [a2] at b2; have := sid_inj' b2; subst this; rw [a1, b1]
    · rcases some1 j x hx with ⟨rfl, rfl⟩ | ⟨rfl, rfl⟩ | ⟨i, hi, rfl, rfl⟩
      · rw [nH, hr]
      · rw [ht1, inTH_top] at hv
        have hv : v1 = 1 := hv
        rw [nT, if_pos hv, ht.ver]
      · rw [nR, ht.row i hi]
    · rcases some1 j x hx with ⟨rfl, rfl⟩ | ⟨rfl, rfl⟩ | ⟨i, hi, rfl, rfl⟩
      · have hv := hn1 (by rw [inTH_H]; rfl)
        rw [hH1, inTH_H] at hv
        exact absurd rfl hv
      · have hv := hn1 (by rw [inTH_top]; rfl)
        rw [ht1, inTH_top] at hv
        have hv : ¬ v1 = 1 := hv
        rw [nT, if_neg hv, ht.ver]; omega
      · have hv := hn1 (by rw [inTH_row hi]; rfl)
        rw [hrow1 i hi, inTH_row hi] at hv
        exact absurd rfl hv
    · have hcell : (cellsT 1000000 (List.range M.length) ++ [PV.own 1000500 1]).map (ren1 rho R1 nv false) = cellsT k (List.range M.length) ++ [.own h vh] := by
        rw [List.map_append]
        congr 1
        · refine List.ext_getElem (by simp [cellsT]) fun i a b => ?_
          have hi : i < M.length := by simpa [cellsT] using a
          simp only [List.getElem_map, cellsT, List.getElem_range]
          have := renA_own rho R1 nv false (sid 1000000 i) 1
          rw [rR i hi, hrow1 i hi] at this
          simp only [beq_self_eq_true, nR] at this
          exact this
        · have := renA_own rho R1 nv false 1000500 1
          rw [rH, hH1] at this
          simp only [beq_self_eq_true, nH] at this
          exact congrArg (fun z => [z]) this
      refine hk S (nv 1000000) ?_ ?_ ?_ (fun t ht' => ?_) (fun i => ?_) fun j hj => ?_
      · rw [hS.row 1000000 k rT, ht1]
        show (⟨nv 1000000, .tab e _⟩ : Row) = _
        rw [hcell]
      · rw [hS.row _ _ rH, hH1, nH]; rfl
      · rw [hS.sl]
        show (s.put (some d) _).sl d = _
        rw [put_sl_same]
        have := renA_own rho R1 nv false 1000000 v1
        rw [rT, ht1] at this
        simp only [beq_self_eq_true] at this
        exact this
      · rw [hS.sl, put_sl_ne _ _ _ _ ht']
      · by_cases hi : i < M.length
        · rw [hS.row _ _ (rR i hi), hrow1 i hi, nR, ht.row i hi]; rfl
        · refine hS.off _ fun j' hx => ?_
          rcases some1 j' _ hx with ⟨_, h2⟩ | ⟨_, h2⟩ | ⟨x, hx', _, h2⟩
          · exact hm (by rw [← h2, sid_mod])
          · exact sid_ne k i h2
          · have := sid_inj' h2; omega
      · by_cases e : j = h
        · subst e; rw [hS.row _ _ rH, hH1, nH, hr]; rfl
        · refine hS.off j fun j' hx => beq_eq_false_iff_ne.1 hj ?_
          rcases some1 j' _ hx with ⟨_, h2⟩ | ⟨_, h2⟩ | ⟨x, hx', _, h2⟩
          · exact absurd h2 e
          · rw [h2]
          · rw [h2, sid_mod]
end
end Go.Abs

/- DERIVED by an AI agent. A slice that a variable's cell stands for gets another number. No program in sight. -/
namespace Go.Abs
set_option linter.unusedSimpArgs false
set_option linter.unusedVariables false

theorem Wk.moveB [Held] {s : St} {j t v N M e sz b vb tb o : Nat} {c cb : List PV} (hd : s.rw j = ⟨v, .sli e sz false c⟩) (hjt : j ≠ t) (hjl : j < lent) (hN : (s.rw t).ver < N) (hM : v ≤ M)
    (hb : s.rw b = ⟨vb, .box tb cb⟩) (ho : cb[o]? = some (.own j v)) (hbj : b ≠ j) (hbt : b ≠ t) :
    Wk s (((s.row j ⟨M, .dead⟩).row t ⟨N, .sli e sz false c⟩).row b ⟨vb, .box tb (cb.set o (.own t N))⟩) := by
  intro G a w ⟨E, hs⟩
  have hRd : E.R j = ⟨v, .sli e sz false c⟩ := by rw [hs.rw]; exact hd
  have hRt : (E.R t).ver < N := by rw [hs.rw]; exact hN
  have hRb : E.R b = ⟨vb, .box tb cb⟩ := by rw [hs.rw]; exact hb
  let R' : Nat → Row := updF (updF (updF E.R j ⟨M, .dead⟩) t ⟨N, .sli e sz false c⟩) b ⟨vb, .box tb (cb.set o (.own t N))⟩
  let rm' : Nat → Option Nat := updF (updF E.rm j none) t (E.rm j)
  let rv' : Nat → Value := updF E.rv t (E.rv j)
  let E' : Env := { R := R', rm := rm', rv := rv', L := mkL E.X R' rm', B := E.B, X := E.X }
  have Rb : E'.R b = ⟨vb, .box tb (cb.set o (.own t N))⟩ := updF_same _ _ _
  have Rt : E'.R t = ⟨N, .sli e sz false c⟩ := by show R' t = _; simp only [R']; rw [updF_other _ _ (Ne.symm hbt), updF_same]
  have Rj : E'.R j = ⟨M, .dead⟩ := by show R' j = _; simp only [R']; rw [updF_other _ _ (Ne.symm hbj), updF_other _ _ hjt, updF_same]
  have Ro : ∀ i, i ≠ j → i ≠ t → i ≠ b → E'.R i = E.R i := fun i h1 h2 h3 => by show R' i = _; simp only [R']; rw [updF_other _ _ h3, updF_other _ _ h2, updF_other _ _ h1]
  have Rk : ∀ i, i ≠ j → i ≠ t → (E'.R i).ver = (E.R i).ver ∧ (E'.R i).kind.nd = (E.R i).kind.nd ∧ (E'.R i).kind.live = (E.R i).kind.live ∧ (E'.R i).kind.slice = (E.R i).kind.slice := fun i h1 h2 => by
    by_cases h3 : i = b
    · subst h3; rw [Rb, hRb]; exact ⟨rfl, rfl, rfl, rfl⟩
    · rw [Ro i h1 h2 h3]; exact ⟨rfl, rfl, rfl, rfl⟩
  have Mt : E'.rm t = E.rm j := updF_same _ _ _
  have Mj : E'.rm j = none := by show rm' j = _; simp only [rm']; rw [updF_other _ _ hjt, updF_same]
  have Mo : ∀ i, i ≠ j → i ≠ t → E'.rm i = E.rm i := fun i h1 h2 => by show rm' i = _; simp only [rm']; rw [updF_other _ _ h2, updF_other _ _ h1]
  have Vt : E'.rv t = E.rv j := updF_same _ _ _
  have Vo : ∀ i, i ≠ t → E'.rv i = E.rv i := fun i h => updF_other _ _ h
  have hL : ∀ b, E'.L b → E.L b := by
    intro b h
    rw [hs.wok.live]
    rcases h with ⟨i, h1, h2⟩ | hX
    rotate_left
    · exact .inr hX
    refine .inl ?_
    have h1 : E'.rm i = some b := h1
    have h2 : (E'.R i).kind.live = true := h2
    by_cases it : i = t
    · subst it; rw [Mt] at h1; exact ⟨j, h1, by rw [hRd]; rfl⟩
    · by_cases ij : i = j
      · subst ij; rw [Mj] at h1; cases h1
      · rw [Mo i ij it] at h1; rw [(Rk i ij it).2.2.1] at h2; exact ⟨i, h1, h2⟩
  have hl : Lasts w w E E' := by
    refine ⟨fun b _ h => ⟨rfl, fun h' => h (hL b h')⟩, fun i => ?_, fun i he hs' => ?_, fun i he hs' => ?_, Nat.le_refl _⟩
    all_goals
      by_cases it : i = t
      · subst it
        first
          | (rw [Rt]; exact Nat.le_of_lt hRt)
          | (rw [Rt] at he; have he : N = (E.R i).ver := he; omega)
      · by_cases ij : i = j
        · subst ij
          first
            | (rw [Rj, hRd]; exact hM)
            | (rw [Rj] at hs'; cases hs')
        · first
            | (rw [(Rk i ij it).1]; exact Nat.le_refl _)
            | (rw [(Rk i ij it).2.2.2] at hs'; exact ⟨hs', Vo i it⟩)
            | (rw [(Rk i ij it).2.1] at hs'; exact ⟨hs', Mo i ij it⟩)
  have hwok : WOk G E' w := by
    refine ⟨fun i => ?_, fun i i' b n1 n2 e1 e2 => ?_, fun b => Iff.rfl, fun i hn => ?_, hs.wok.base, hs.wok.xs, hs.wok.fx, fun i b hn hb => ?_, hs.wok.kept, fun i => ?_⟩
    · by_cases it : i = t
      · subst it
        have hrow := hs.wok.rows j
        unfold RowOk at hrow ⊢
        rw [hRd] at hrow
        rw [Rt, Mt, Vt]
        rcases hrow with h | ⟨b, n, cap, vs, rest, h1, h2, h3, h4, h5, h6, h7, h8, h9⟩
        · exact .inl h
        · refine .inr ⟨b, n, cap, vs, rest, h1, ?_, h3, h4, h5, h6, h7, h8, h9.mono hl.bare (Nat.le_refl _)⟩
          rcases h2 with h2 | h2
          · exact .inl h2
          · exact absurd h2.1 (by omega)
      · by_cases ij : i = j
        · subst ij; unfold RowOk; rw [Rj]; trivial
        · have hrow := hs.wok.rows i
          unfold RowOk at hrow ⊢
          by_cases ib : i = b
          · subst ib
            rw [hRb] at hrow
            rw [Rb, Mo i ij it]
            obtain ⟨b', vs, h1, h2, h3, h4⟩ := hrow
            refine ⟨b', vs, h1, h2, h3, by simp [h4.1], fun x a' b'' => ?_⟩
            have hx : x < cb.length := by simpa using a'
            rw [List.getElem_set]
            by_cases hxo : o = x
            · subst hxo
              rw [if_pos rfl]
              have h0 := h4.2 o hx b''
              have : cb[o] = .own j v := (List.getElem?_eq_some_iff.1 ho).2
              rw [this] at h0
              exact own_moved hRd Rt Vt h0
            · rw [if_neg hxo]
              exact (h4.2 x hx b'').mono hl (Nat.le_refl _)
          · rw [Ro i ij it ib, Mo i ij it, Vo i it]
            cases hkd : (E.R i).kind with
            | dead => trivial
            | nil => simpa only [hkd] using hrow
            | box t cells =>
              simp only [hkd] at hrow ⊢
              obtain ⟨b, vs, h1, h2, h3, h4⟩ := hrow
              exact ⟨b, vs, h1, h2, h3, h4.mono hl (Nat.le_refl _)⟩
            | sli e sz fz cells =>
              simp only [hkd] at hrow ⊢
              rcases hrow with h | ⟨b, n, cap, vs, rest, h1, h2, h3, h4, h5, h6, h7, h8, h9⟩
              · exact .inl h
              · exact .inr ⟨b, n, cap, vs, rest, h1, h2, h3, h4, h5, h6, h7, h8, h9.mono hl.bare (Nat.le_refl _)⟩
            | tab e cells =>
              simp only [hkd] at hrow ⊢
              rcases hrow with h | ⟨b, n, cap, vs, rest, h1, h2, h3, h4, h5, h6, h7, h8, h9⟩
              · exact .inl h
              · exact .inr ⟨b, n, cap, vs, rest, h1, h2, h3, h4, h5, h6, h7, h8, h9.mono hl (Nat.le_refl _)⟩
    · have back : ∀ i b, (E'.R i).kind.nd = true → E'.rm i = some b → (E.R (if i = t then j else i)).kind.nd = true ∧ E.rm (if i = t then j else i) = some b ∧ i ≠ j := by
        intro i b hn hm
        by_cases it : i = t
        · subst it; rw [if_pos rfl]; rw [Mt] at hm; exact ⟨by rw [hRd]; rfl, hm, Ne.symm hjt⟩
        · rw [if_neg it]
          have ij : i ≠ j := fun e => by subst e; rw [Mj] at hm; cases hm
          rw [Mo i ij it] at hm
          exact ⟨by rw [← (Rk i ij it).2.1]; exact hn, hm, ij⟩
      obtain ⟨a1, a2, a3⟩ := back i b n1 e1
      obtain ⟨b1, b2, b3⟩ := back i' b n2 e2
      have := hs.wok.inj _ _ b a1 b1 a2 b2
      by_cases it : i = t
      · by_cases it2 : i' = t
        · rw [it, it2]
        · rw [if_pos it, if_neg it2] at this; exact absurd this.symm b3
      · by_cases it2 : i' = t
        · rw [if_neg it, if_pos it2] at this; exact absurd this a3
        · rw [if_neg it, if_neg it2] at this; exact this
    · by_cases it : i = t
      · subst it; rw [Rt]; exact Nat.lt_of_le_of_lt (Nat.zero_le _) hRt
      · by_cases ij : i = j
        · subst ij; rw [Rj] at hn; cases hn
        · rw [(Rk i ij it).2.1] at hn; rw [(Rk i ij it).1]; exact hs.wok.pos i hn
    · by_cases it : i = t
      · subst it; rw [Mt] at hb; exact hs.wok.apart j b (by rw [hRd]; rfl) hb
      · by_cases ij : i = j
        · subst ij; rw [Mj] at hb; cases hb
        · rw [Mo i ij it] at hb; rw [(Rk i ij it).2.1] at hn; exact hs.wok.apart i b hn hb
    · obtain ⟨p1, p2⟩ := hs.wok.pin i
      by_cases it : i = t
      · subst it
        rw [Rt]
        exact ⟨Nat.le_trans p1 (Nat.le_of_lt hRt), fun h => by have h : N = (G.pR i).ver := h; omega⟩
      · by_cases ij : i = j
        · subst ij
          rw [Rj]
          rw [hRd] at p1
          exact ⟨Nat.le_trans p1 hM, fun h h' => by cases h'⟩
        · rw [(Rk i ij it).1, (Rk i ij it).2.1, (Rk i ij it).2.2.2, Mo i ij it, Vo i it]; exact ⟨p1, p2⟩
  refine ⟨E', ?_, hwok, hs.size, hs.defers, fun i => (hs.slots i).mono hl (Nat.le_refl _)⟩
  show R' = _
  simp only [R', hs.rw]
  rfl
section
variable {s : St} {j t v N e sz b vb tb o : Nat} {c cb cb' : List PV} {Q : AX → St → Prop}
theorem Wk.moveB' [Held] (hd : s.rw j = ⟨v, .sli e sz false c⟩) (hb : s.rw b = ⟨vb, .box tb cb⟩) (ho : cb[o]? = some (.own j v)) (t N : Nat) (hN : (s.rw t).ver < N) (hcb : cb.set o (.own t N) = cb') (hjl : j < lent) (hjt : (j == t) = false) (hbj : (b == j) = false) (hbt : (b == t) = false) :
    ∃ s', Wk s s' ∧ (s'.rw t = ⟨N, .sli e sz false c⟩ ∧ s'.rw b = ⟨vb, .box tb cb'⟩) ∧ s'.sl = s.sl ∧ ∀ i, (i % 1000 == j % 1000) = false → (i % 1000 == t % 1000) = false → (i % 1000 == b % 1000) = false → s'.rw i = s.rw i := by
  have hjt := beq_eq_false_iff_ne.1 hjt
  have hbj := beq_eq_false_iff_ne.1 hbj
  have hbt := beq_eq_false_iff_ne.1 hbt
  refine ⟨_, Wk.moveB hd hjt hjl hN (Nat.le_refl _) hb ho hbj hbt, ⟨?_, by rw [hcb, row_rw_same]⟩, rfl, fun i h1 h2 h3 => ?_⟩
  · rw [row_rw_ne _ _ _ _ (Ne.symm hbt), row_rw_same]
  · rw [row_rw_ne _ _ _ _ (fun e => beq_eq_false_iff_ne.1 h3 (by rw [e])), row_rw_ne _ _ _ _ (fun e => beq_eq_false_iff_ne.1 h2 (by rw [e])), row_rw_ne _ _ _ _ (fun e => beq_eq_false_iff_ne.1 h1 (by rw [e]))]
theorem loop_mvb [Held] {α : Type} (hd : s.rw j = ⟨v, .sli e sz false c⟩) (hb : s.rw b = ⟨vb, .box tb cb⟩) (ho : cb[o]? = some (.own j v)) (t N : Nat) (hN : (s.rw t).ver < N) (hcb : cb.set o (.own t N) = cb') (hjl : j < lent) (hjt : (j == t) = false) (hbj : (b == j) = false) (hbt : (b == t) = false)
    (I : α → St → Prop) (μ : α → Nat) (x0 : α) {bd : (AX → St → Prop) → St → Prop} {u : Dm bd} {w : Dm Q}
    (h0 : ∀ s', (s'.rw t = ⟨N, .sli e sz false c⟩ ∧ s'.rw b = ⟨vb, .box tb cb'⟩) → s'.sl = s.sl → (∀ i, (i % 1000 == j % 1000) = false → (i % 1000 == t % 1000) = false → (i % 1000 == b % 1000) = false → s'.rw i = s.rw i) → I x0 s') (h : ∀ x s1, I x s1 → bd (AX.seq (again I μ (μ x)) Q) s1) : loopK (kk bd u) (kk Q w) s := by
  obtain ⟨s', h1, h2, h3, h4⟩ := Wk.moveB' hd hb ho t N hN hcb hjl hjt hbj hbt
  exact ⟨α, I, μ, ⟨x0, s', h1, h0 s' h2 h3 h4⟩, h⟩
theorem again_mvb [Held] {α : Type} {I : α → St → Prop} {μ : α → Nat} {m : Nat} (hd : s.rw j = ⟨v, .sli e sz false c⟩) (hb : s.rw b = ⟨vb, .box tb cb⟩) (ho : cb[o]? = some (.own j v)) (t N : Nat) (hN : (s.rw t).ver < N) (hcb : cb.set o (.own t N) = cb') (hjl : j < lent) (hjt : (j == t) = false) (hbj : (b == j) = false) (hbt : (b == t) = false)
    (x' : α) (h0 : ∀ s', (s'.rw t = ⟨N, .sli e sz false c⟩ ∧ s'.rw b = ⟨vb, .box tb cb'⟩) → s'.sl = s.sl → (∀ i, (i % 1000 == j % 1000) = false → (i % 1000 == t % 1000) = false → (i % 1000 == b % 1000) = false → s'.rw i = s.rw i) → I x' s') (hm : μ x' < m) : again I μ m s := by
  obtain ⟨s', h1, h2, h3, h4⟩ := Wk.moveB' hd hb ho t N hN hcb hjl hjt hbj hbt
  exact again_wk x' h1 (h0 s' h2 h3 h4) hm
/-- The same for a slice that a variable stands for. -/
theorem Wk.moveS' [Held] {d : Nat} (hd : s.rw j = ⟨v, .sli e sz false c⟩) (hsl : s.sl d = .own j v) (t N : Nat) (hN : (s.rw t).ver < N) (hjl : j < lent) (hjt : (j == t) = false) :
    ∃ s', Wk s s' ∧ s'.rw t = ⟨N, .sli e sz false c⟩ ∧ s'.sl = (s.put (some d) (.own t N)).sl ∧ ∀ i, (i % 1000 == j % 1000) = false → (i % 1000 == t % 1000) = false → s'.rw i = s.rw i := by
  have hjt := beq_eq_false_iff_ne.1 hjt
  refine ⟨_, Wk.moveS hd hjt hjl hN (Nat.le_refl _) hsl, by rw [put_rw, row_rw_same], rfl, fun i h1 h2 => ?_⟩
  rw [put_rw, row_rw_ne _ _ _ _ (fun e => beq_eq_false_iff_ne.1 h2 (by rw [e])), row_rw_ne _ _ _ _ (fun e => beq_eq_false_iff_ne.1 h1 (by rw [e]))]
theorem loop_mvs [Held] {α : Type} {d : Nat} (hd : s.rw j = ⟨v, .sli e sz false c⟩) (hsl : s.sl d = .own j v) (t N : Nat) (hN : (s.rw t).ver < N) (hjl : j < lent) (hjt : (j == t) = false)
    (I : α → St → Prop) (μ : α → Nat) (x0 : α) {bd : (AX → St → Prop) → St → Prop} {u : Dm bd} {w : Dm Q}
    (h0 : ∀ s', s'.rw t = ⟨N, .sli e sz false c⟩ → s'.sl = (s.put (some d) (.own t N)).sl → (∀ i, (i % 1000 == j % 1000) = false → (i % 1000 == t % 1000) = false → s'.rw i = s.rw i) → I x0 s') (h : ∀ x s1, I x s1 → bd (AX.seq (again I μ (μ x)) Q) s1) : loopK (kk bd u) (kk Q w) s := by
  obtain ⟨s', h1, h2, h3, h4⟩ := Wk.moveS' hd hsl t N hN hjl hjt
  exact ⟨α, I, μ, ⟨x0, s', h1, h0 s' h2 h3 h4⟩, h⟩
theorem again_mvs [Held] {α : Type} {I : α → St → Prop} {μ : α → Nat} {m d : Nat} (hd : s.rw j = ⟨v, .sli e sz false c⟩) (hsl : s.sl d = .own j v) (t N : Nat) (hN : (s.rw t).ver < N) (hjl : j < lent) (hjt : (j == t) = false)
    (x' : α) (h0 : ∀ s', s'.rw t = ⟨N, .sli e sz false c⟩ → s'.sl = (s.put (some d) (.own t N)).sl → (∀ i, (i % 1000 == j % 1000) = false → (i % 1000 == t % 1000) = false → s'.rw i = s.rw i) → I x' s') (hm : μ x' < m) : again I μ m s := by
  obtain ⟨s', h1, h2, h3, h4⟩ := Wk.moveS' hd hsl t N hN hjl hjt
  exact again_wk x' h1 (h0 s' h2 h3 h4) hm
end
end Go.Abs

/- DERIVED by an AI agent. Loops at whose turn a table is written no more. No program in sight. -/
namespace Go.Abs
set_option linter.unusedSimpArgs false
set_option linter.unusedVariables false
section
variable {s : St} {k v e e2 d : Nat} {q : List Nat} {M : Mat} {Q : AX → St → Prop}
theorem killF_off [Held] {R : Nat → Row} {j : Nat} (h : (j % 1000 == k % 1000) = false) : killF R k q j = R j := by
  refine killF_out fun hj => beq_eq_false_iff_ne.1 h ?_
  rcases hj with rfl | ⟨x, _, rfl⟩
  · rfl
  · exact sid_mod _ _
theorem again_flat [Held] {α : Type} {I : α → St → Prop} {μ : α → Nat} {m : Nat} (ht : TabI s.rw k v e e2 q M) (hk : k < lent) (hq : ∀ j ∈ q, sid k j < lent) (hd : s.sl d = .own k v) (x' : α)
    (h0 : ∀ s', s'.sl d = .sl true 1 (iLL M) → (∀ t, (t == d) = false → s'.sl t = s.sl t) → (∀ j, (j % 1000 == k % 1000) = false → s'.rw j = s.rw j) → I x' s') (hm : μ x' < m) : again I μ m s := by
  refine again_wk x' (Wk.flat ht hk hq hd) (h0 _ (put_sl_same _ _ _) (fun t ht => put_sl_ne _ _ _ _ (beq_eq_false_iff_ne.1 ht)) fun j hj => ?_) hm
  rw [put_rw]; exact killF_off hj
/-- A slice of nils, read from then on. -/
theorem loop_nilrow [Held] {α : Type} {n : Nat} (hr : s.rw k = ⟨v, .sli e 1 false (List.replicate n (.v (.slice none 0 0)))⟩) (hk : k < lent) (hd : s.sl d = .own k v)
    (I : α → St → Prop) (μ : α → Nat) (x0 : α) {bd : (AX → St → Prop) → St → Prop} {u : Dm bd} {w : Dm Q}
    (h0 : ∀ s', s'.sl d = .sl true 1 (iLL (List.replicate n [])) → (∀ t, (t == d) = false → s'.sl t = s.sl t) → (∀ j, (j % 1000 == k % 1000) = false → s'.rw j = s.rw j) → I x0 s') (h : ∀ x s1, I x s1 → bd (AX.seq (again I μ (μ x)) Q) s1) : loopK (kk bd u) (kk Q w) s := by
  have h1 := Wk.flatRow hr hk hd
  have h2 := Wk.recell (s := (s.killed k []).put (some d) (.sl true 1 (List.replicate n (.v (.slice none 0 0))))) (d := d) (fr := true) (n := n) (put_sl_same _ _ _)
  refine ⟨α, I, μ, ⟨x0, _, h1.trans h2, h0 _ ?_ (fun t ht => ?_) fun j hj => ?_⟩, h⟩
  · rw [put_sl_same]; simp [iLL, iL]
  · have := beq_eq_false_iff_ne.1 ht
    rw [put_sl_ne _ _ _ _ this, put_sl_ne _ _ _ _ this]; rfl
  · rw [put_rw, put_rw]; exact killF_off hj
end
theorem adopt_imsl (s : St) (d : Nat) (fr : Bool) (sz : Nat) (c : List PV) : adoptSt s d (.im (.sl fr sz c)) = s.put (some d) (.sl true sz c) := by
  unfold adoptSt leaves adopt2 adopt0 setIf; rfl
end Go.Abs

/- DERIVED by an AI agent. A slice sorted by a function of two members: the library's contract as one of the layer. No program in sight. -/
namespace Go.Abs
set_option linter.unusedSimpArgs false
set_option linter.unusedVariables false
open Go.Proofs Go.Shelf Go.RowKit Go.Sort

theorem ext_grow [Held] {W w1 : World} (h : Ext W w1) (hd : Held.dr) : ∃ q os', w1 = grow (W.drewN q) os' := by
  refine ⟨w1.drawn - W.drawn, w1.heap.extract W.heap.size w1.heap.size, ?_⟩
  have h1 := h.output.more hd
  have hh : w1.heap = W.heap ++ w1.heap.extract W.heap.size w1.heap.size := by
    refine Array.ext_getElem? fun i => ?_
    by_cases hi : i < W.heap.size
    · rw [h.block i hi, Array.getElem?_append_left hi]
    · rw [Array.getElem?_append_right (by omega), Array.getElem?_extract]
      by_cases h2 : i < w1.heap.size
      · rw [if_pos (by omega)]; congr 1; omega
      · rw [if_neg (by omega), Array.getElem?_eq_none (by omega)]
  have e1 := h.os; have e2 := h.tape; have e3 := h.output.same
  cases w1; cases W
  simp only [grow, World.drewN] at *
  subst e1 e2 e3
  congr 1
  omega
section
variable {α : Type} [Inhabited α] (enc : α → Value)
theorem putRow_heap {W : World} {b : Nat} {cells : Array Value} {e : TypeId} {fr : Nat × Nat} (h : W.heap[b]? = some (.cells cells e fr)) (d' : Array α) : (putRow enc W b 0 d').heap[b]? = some (.cells (putCells enc 0 d' cells) e fr) := by
  simp [putRow, mapBlock, Array.getElem?_modify, h, onCells]
theorem putRow_off {W : World} {b i : Nat} (h : i ≠ b) (d' : Array α) : (putRow enc W b 0 d').heap[i]? = W.heap[i]? := by
  simp [putRow, mapBlock, Array.getElem?_modify, Ne.symm h]
theorem putCells_list {vs rest : List Value} {d' : Array α} (h : d'.size = vs.length) : putCells enc 0 d' (vs ++ rest).toArray = (d'.toList.map enc ++ rest).toArray := by
  refine Array.ext (by simp [putCells, h]) fun i h1 h2 => ?_
  have h1' : i < vs.length + rest.length := by simpa [putCells] using h1
  simp only [putCells, Array.getElem_mapIdx]
  by_cases hi : i < d'.size
  · rw [if_pos ⟨Nat.zero_le _, by omega⟩]
    simp [List.getElem_append_left, hi]
  · rw [if_neg (by omega)]
    have a : vs.length ≤ i := by omega
    have b : (d'.toList.map enc).length ≤ i := by simp; omega
    simp [List.getElem_append_right, a, h]
end
theorem ints_vals {α : Type} {en : α → Int} {w : World} {E : Env} {lo : Nat} {d : List α} {vs : List Value} (h : RepL w E lo (iL (d.map en)) vs) : vs = d.map fun x => Value.int .i64 (en x) := by
  obtain ⟨hl, hh⟩ := h
  have hl' : d.length = vs.length := by simpa [iL] using hl
  refine List.ext_getElem (by simpa using hl'.symm) fun i h1 h2 => ?_
  have h3 := hh i (by simpa [iL] using h2) h1
  simp only [iL, List.getElem_map] at h3
  rw [List.getElem_map]
  exact h3.v_eq
theorem sort_AM [Held] {P : Program} {ρ : Ren} (L : SlLaysF.n6 P ρ) (L0 : SlLaysF0.n6 P ρ) (hE : Enters P (ρ.f 6)) (hdr : Held.dr) {α : Type} [Inhabited α] (en : α → Int) (cf : α → α → Int) (hS : SWO (ltOf cf)) (g : FuncId) (hg : ∀ args w, (callFunc g args).run P w = .ok (.enter g args) w)
    (hcmp : ∀ x y : α, AC P g [.v (.int .i64 (en x)), .v (.int .i64 (en y))] (.im (.v (.int .i64 (cf x y))))) (e : TypeId) (d : List α) (hd : d.length < 4611686018427387904) (out : List Int)
    (huniq : ∀ d' : List α, d'.Perm d → d'.Pairwise (fun x y => ltOf cf y x = false) → d'.map en = out) : AM P (ρ.f 6) [.own 1000000 1, .clo g []] [⟨e, 1, iL (d.map en)⟩] [iL out] (.tuple #[]) := by
  refine ⟨hE, fun r hr => ?_, rfl, fun c hc => ?_, fun w M E vals hw hR hv => ?_⟩
  · rw [List.mem_singleton.1 hr]; exact plain_iL _
  · rw [List.mem_singleton.1 hc]; exact plain_iL _
  obtain ⟨hl, hr⟩ := hv
  obtain ⟨x, y, rfl⟩ : ∃ x y, vals = [x, y] := by
    match vals, hl with
    | [x, y], _ => exact ⟨x, y, rfl⟩
  have h0 := hr 0 (by simp) (by simp)
  have h1 := hr 1 (by simp) (by simp)
  simp only [List.getElem_cons_zero, List.getElem_cons_succ] at h0 h1
  have hRl : E.R 1000000 = ⟨1, .sli e 1 false (iL (d.map en))⟩ := by
    rw [hR]; exact inR_at (i := 0) (r := ⟨e, 1, iL (d.map en)⟩) rfl
  have hx : x = E.rv 1000000 := by cases h0 with | own hv hx => exact hx (by rw [hRl]) (by rw [hRl]; rfl)
  have hy : y = .func (.func g) #[] #[] := by
    cases h1 with
    | @clo _ _ _ _ vs hl2 hh => have : vs = [] := List.eq_nil_of_length_eq_zero hl2.symm; subst this; rfl
  subst hx hy
  have hrow := hw.rows 1000000
  unfold RowOk at hrow
  rw [hRl] at hrow
  rcases hrow with ⟨g1, g2, g3⟩ | ⟨b, n, cap, vs, rest, g1, g2, g3, g4, g5, g6, g7, g8, g9⟩
  · have hdn : d = [] := by
      have := congrArg List.length g3
      exact List.eq_nil_of_length_eq_zero (by simpa [iL] using this)
    subst hdn
    have ho : out = [] := (huniq [] (List.Perm.refl _) List.Pairwise.nil).symm
    subst ho
    rw [g2]
    refine (AnyF.slices_SortFunc_none L0 none 0 (.func (.func g) #[] #[]) w).mono fun en' w' ⟨he, hw'⟩ => ?_
    subst hw'
    refine ⟨he, E, hw, fun i r c hi hc => ?_⟩
    match i, hi, hc with
    | 0, hi, hc => cases hi; cases hc; exact hRl
  · have hvs := ints_vals g9
    have hn : n = d.length := by
      have := congrArg List.length hvs
      rw [g5] at this; simpa using this
    subst hn
    let enc : α → Value := fun x => .int .i64 (en x)
    have hvl : vs.length = d.toArray.size := by rw [g5]; simp
    have hcell : ∀ j (hj : j < vs.length), w.cell? ⟨b, 0 + j, none⟩ = some vs[j] := fun j hj => by
      rw [Nat.zero_add, cell_of_list g4 (by simp; omega)]
      simp [List.getElem_append_left hj]
    have hH : Holds enc w b 0 d.toArray := fun j hj => by
      have hj' : j < vs.length := by omega
      refine ⟨?_, ?_⟩
      · rw [hcell j hj']
        have hj2 : j < d.length := by simpa using hj
        have : vs[j] = enc d[j] := by
          have : vs[j] = (d.map fun x => Value.int .i64 (en x))[j]'(by simpa using hj2) := by congr 1
          rw [this, List.getElem_map]
        rw [this]
        simp [hj2]
      · simp [World.frozen?, g4]
    have hbs := get_lt g4
    have hng := hw.ngl g1 (by rw [hRl]; rfl)
    have hphi : ∀ m os (dk : Array α), Held.Φ (sortWorld enc w b 0 m dk os) := fun m os dk => by
      refine Held.keep hw.held fun i hi => ?_
      have hne : i ≠ b := fun e => hng (e ▸ hi)
      have hlt := Held.low hw.held hi
      show ((putRow enc (Sort.ahead w m) b 0 dk).heap ++ os)[i]? = w.heap[i]?
      rw [Array.getElem?_append_left (by rw [Sort.size_putRow]; exact hlt), putRow_off enc hne]
      rfl
    have hlays : CmpLays1 P g #[] enc cf b 0 d.toArray.size w := fun m os dk hs x y => by
      have hc := (hcmp x y).2 (sortWorld enc w b 0 m dk os) [.int .i64 (en x), .int .i64 (en y)] (hphi m os dk) ⟨rfl, fun i a b => by
        match i, a, b with
        | 0, _, _ => exact .v _
        | 1, _, _ => exact .v _⟩
      refine hc.mono fun e' w1 ⟨v, lv, he, hx, ho, _⟩ => ⟨?_, ext_grow hx hdr⟩
      cases ho with
      | im h => cases h; exact he
    rw [g3]
    have hcon := Any.slices_SortFunc L enc (fun _ => rfl) cf hS g #[] b 0 cap d.toArray w hg hlays hH hbs (by simpa using hd)
    have hsz : d.toArray.size = d.length := by simp
    rw [hsz] at hcon
    refine hcon.mono fun en' w' ⟨he, d', m, os, hp, hs, hw'⟩ => ?_
    obtain ⟨p1, p2, p3⟩ := hp
    have hds : d'.size = d.length := by rw [p1]; simp
    have hperm : d'.toList.Perm d := by
      have a : (d'.extract 0 d.length).toList = d'.toList := by rw [← hds, Array.extract_size]
      have b : (d.toArray.extract 0 d.length).toList = d := by simp
      rw [a, b] at p3
      exact p3
    have hpw : d'.toList.Pairwise (fun x y => ltOf cf y x = false) := by
      refine List.pairwise_iff_getElem.2 fun i j hi hj hij => ?_
      have hi' : i < d'.size := by simpa using hi
      have hj' : j < d'.size := by simpa using hj
      have := hs i j (Nat.zero_le _) hij (by omega)
      rw [getElem!_pos d' i hi', getElem!_pos d' j hj'] at this
      simpa using this
    have hout := huniq d'.toList hperm hpw
    have hheap : w'.heap[b]? = some (.cells (d'.toList.map enc ++ rest).toArray e (0, 0)) := by
      rw [hw']
      show ((putRow enc (Sort.ahead w m) b 0 d').heap ++ os)[b]? = _
      rw [Array.getElem?_append_left (by rw [Sort.size_putRow]; exact hbs), putRow_heap enc (show (Sort.ahead w m).heap[b]? = _ from g4), putCells_list enc (by rw [hds, g5, Nat.mul_one])]
    have hoff : ∀ i, i < w.heap.size → i ≠ b → w'.heap[i]? = w.heap[i]? := fun i hi hne => by
      rw [hw']
      show ((putRow enc (Sort.ahead w m) b 0 d').heap ++ os)[i]? = _
      rw [Array.getElem?_append_left (by rw [Sort.size_putRow]; exact hi), putRow_off enc hne]
      rfl
    have hsize : w.heap.size ≤ w'.heap.size := by
      rw [hw']
      show w.heap.size ≤ ((putRow enc (Sort.ahead w m) b 0 d').heap ++ os).size
      rw [Array.size_append, Sort.size_putRow]; exact Nat.le_add_right _ _
    let R' : Nat → Row := updF E.R 1000000 ⟨1, .sli e 1 false (iL out)⟩
    have Rk : R' 1000000 = ⟨1, .sli e 1 false (iL out)⟩ := updF_same _ _ _
    have Ro : ∀ k, k ≠ 1000000 → R' k = E.R k := fun k hk => updF_other _ _ hk
    let E' : Env := { R := R', rm := E.rm, rv := E.rv, L := mkL E.X R' E.rm, B := E.B, X := E.X }
    have hturn : Turn ⟨w, M, 0, E.R, E.rm, E.rv, E.X⟩ E E' w w' (fun k => k = 1000000) := by
      refine ⟨rfl, rfl, rfl, fun k hk => ⟨Ro k hk, rfl, rfl⟩, fun i hi hD => ?_, fun k i hk hb hn => ?_, fun k hk => ?_, fun k hk _ _ => ?_, fun k hk _ _ => ?_, fun k hk _ => ?_, fun k k' i hk hk' _ _ _ _ => hk.trans hk'.symm, hsize, ?_, ?_, ⟨?_, fun _ => ?_⟩⟩
      · refine hoff i hi fun e => ?_
        have := hD 1000000 rfl (by rw [e]; exact g1)
        rw [hRl] at this; cases this
      · subst hk
        exact .inr ⟨hb, by rw [hRl]; rfl, fun _ => by rw [hRl]; rfl⟩
      · subst hk; show _ ≤ (R' 1000000).ver; rw [Rk, hRl]; exact Nat.le_refl _
      · subst hk; exact ⟨by rw [hRl]; rfl, rfl⟩
      · subst hk; exact ⟨by rw [hRl]; rfl, rfl⟩
      · subst hk; show 0 < (R' 1000000).ver; rw [Rk]; exact Nat.one_pos
      · rw [hw']; rfl
      · rw [hw']; rfl
      · rw [hw']; rfl
      · rw [hw']; exact Nat.le_add_right _ _
    have hwok := hturn.wok hw fun k hk => by
      subst hk
      unfold RowOk
      have hk2 : E'.R 1000000 = ⟨1, .sli e 1 false (iL out)⟩ := Rk
      rw [hk2]
      refine .inr ⟨b, d.length, cap, d'.toList.map enc, rest, g1, g2, g3, hheap, by simp [hds], g6, g7, ?_, ?_⟩
      · rw [List.length_append] at g8 ⊢
        rw [← g8, g5]; simp [hds]
      · refine ⟨?_, fun i a b' => ?_⟩
        · rw [← hout]; simp [iL]
        · have hi : i < d'.toList.length := by simpa using b'
          have e1 : (iL out)[i] = .v (.int .i64 (en d'.toList[i])) := by
            simp only [← hout, iL, List.getElem_map]
          rw [e1, List.getElem_map]
          exact .v _
    refine ⟨he, E', hwok, fun i r c hi hc => ?_⟩
    match i, hi, hc with
    | 0, hi, hc => cases hi; cases hc; exact Rk
end Go.Abs
