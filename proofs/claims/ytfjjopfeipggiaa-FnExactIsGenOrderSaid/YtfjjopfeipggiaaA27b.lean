/- DERIVED by an AI agent. The contract of a function that writes into rows that it is given, from its text. No program in sight. -/
import Derived.Test.YtfjjopfeipggiaaA27
namespace Go.Abs
set_option linter.unusedSimpArgs false
set_option linter.unusedVariables false

def rowsM (rw : Nat → Row) : Nat → List LR → List (List PV) → Prop
  | _, [], [] => True
  | i, r :: ins, c :: outs => rw (lent + i) = ⟨1, .sli r.e r.sz false c⟩ ∧ rowsM rw (i + 1) ins outs
  | _, _, _ => False

def retM (T : Tab) (s : St) (rs : List ResultVar) (ins : List LR) (outs : List (List PV)) (x : Value) : Prop :=
  rowsM s.rw 0 ins outs ∧ match rs with
  | [r] => resK T s r fun p => p = .v x
  | [] => x = .tuple #[]
  | _ => False

def endM (T : Tab) (rs : List ResultVar) (ins : List LR) (outs : List (List PV)) (x : Value) : AX → St → Prop
  | .norm, s => retM T s rs ins outs x
  | .ret, s => retM T s rs ins outs x
  | .exit _, _ => False

def St.initM (args : List PV) (ins : List LR) : St := ⟨fun i => args.getD i .junk, inR ins⟩

theorem rowsM_at {rw : Nat → Row} : ∀ (ins : List LR) (outs : List (List PV)) (n : Nat), rowsM rw n ins outs → outs.length = ins.length ∧ ∀ (i : Nat) (r : LR) (c : List PV), ins[i]? = some r → outs[i]? = some c → rw (lent + (n + i)) = ⟨1, .sli r.e r.sz false c⟩ := by
  intro ins
  induction ins with
  | nil => intro outs n h; cases outs with
    | nil => exact ⟨rfl, fun i r c h => by simp at h⟩
    | cons _ _ => exact h.elim
  | cons r ins ih =>
    intro outs n h
    cases outs with
    | nil => exact h.elim
    | cons c outs =>
      obtain ⟨h1, h2⟩ := h
      obtain ⟨a, b⟩ := ih outs (n + 1) h2
      refine ⟨by simp [a], fun i r' c' hr hc => ?_⟩
      cases i with
      | zero => simp at hr hc; subst hr; subst hc; exact h1
      | succ i =>
        have := b i r' c' (by simpa using hr) (by simpa using hc)
        rw [Nat.add_right_comm n 1 i] at this
        exact this

theorem AM.of {P : Program} {T : Tab} {f : FuncId} {fn : Func} {c : Code} {args : List PV} {ins : List LR} {outs : List (List PV)} {x : Value} (hT : T.Ok P) (hm : P.follows .mixedOrders = true) (hf : P.funcs[f]? = some fn) (hname : (fn.name == "runtime.NumGoroutine") = false)
    (hb : fn.body = some c) (hfit : (fits fn.ntmps c && decide (args.length ≤ fn.ntmps) && decide (fn.results.toList.length ≤ 4)) = true) (hi : ∀ r ∈ ins, plain r.c) (ho : ∀ c ∈ outs, plain c) (hlen : outs.length = ins.length)
    (h : (∀ r ∈ ins, r.c.length ≤ 9223372036854775807 * r.sz) → cwp P T c (endM T fn.results.toList ins outs x) (St.initM args ins)) : AM P f args ins outs x := by
  simp only [Bool.and_eq_true, decide_eq_true_eq] at hfit
  obtain ⟨⟨hfit, hargs⟩, hn4⟩ := hfit
  refine ⟨⟨fn, hf, hname, by rw [hb]; rfl⟩, hi, hlen, ho, fun w M E vals hw hR hvals => ?_⟩
  have hlen' : args.length = vals.length := hvals.1
  let G : Ghost := ⟨w, M, fn.ntmps, fun k => (E.R k).ver, E.rm, E.rv⟩
  let act : Act := { tmps := vals.toArray ++ Array.replicate (fn.ntmps - vals.toArray.size) undef, defers := [] }
  have hsim : Sim G (St.initM args ins) act w := by
    refine ⟨E, hR, ⟨hw.rows, hw.inj, hw.live, hw.pos, hw.base, ⟨hw.kept.os, hw.kept.tape, hw.kept.output, hw.kept.size, hw.kept.block⟩, hw.pin⟩, ?_, rfl, fun i => ?_⟩
    · show (vals.toArray ++ Array.replicate (fn.ntmps - vals.toArray.size) undef).size = fn.ntmps
      simp; omega
    · show Rep w E 0 (args.getD i .junk) ((vals.toArray ++ Array.replicate (fn.ntmps - vals.toArray.size) undef).getD i undef)
      by_cases hi : i < args.length
      · have e1 : args.getD i .junk = args[i] := by simp [List.getD, hi]
        have e2 : (vals.toArray ++ Array.replicate (fn.ntmps - vals.toArray.size) undef).getD i undef = vals[i]'(by omega) := by
          rw [Array.getD_eq_getD_getElem?, Array.getElem?_append_left (by simp; omega)]
          simp [(by omega : i < vals.length)]
        rw [e1, e2]
        exact hvals.2 i hi (by omega)
      · have e1 : args.getD i .junk = .junk := by simp [List.getD, hi]
        rw [e1]; exact .junk _
  have hlens : ∀ r ∈ ins, r.c.length ≤ 9223372036854775807 * r.sz := fun r hr => by
    obtain ⟨i, hi, rfl⟩ := List.getElem_of_mem hr
    have hrow := hw.rows (lent + i)
    unfold RowOk at hrow
    rw [hR, inR_at (List.getElem?_eq_getElem hi)] at hrow
    simp only at hrow
    rcases hrow with ⟨_, _, hc⟩ | ⟨b, n, cap, vs, rest, h1, h2, h3, h4, h5, h6, h7, h8, h9⟩
    · rw [hc]; exact Nat.zero_le _
    · rw [h9.1, h5]; exact Nat.mul_le_mul_right _ (Nat.le_trans h6 h7)
  have hwp := cwp_sound (G := G) hT hm c hfit _ _ (h hlens) act w hsim
  refine calls_of_wp hf hb (wp_mono hwp fun e a' w' hq => ?_)
  have fin : ∀ s, Sim G s a' w' → retM T s fn.results.toList ins outs x → a'.defers = [] ∧ ∃ v, (results fn a'.tmps).run P w' = .ok v w' ∧ Ending.returned v = .returned x ∧ ∃ E', WOk ⟨w, M, 0, fun k => (E.R k).ver, E.rm, E.rv⟩ E' w' ∧
        ∀ (i : Nat) (r : LR) (c : List PV), ins[i]? = some r → outs[i]? = some c → E'.R (lent + i) = ⟨1, .sli r.e r.sz false c⟩ := fun s hs hk => by
    obtain ⟨E', hs⟩ := hs
    obtain ⟨hrows, hk⟩ := hk
    have hat := (rowsM_at _ _ _ hrows).2
    have hlast : ∃ E', WOk ⟨w, M, 0, fun k => (E.R k).ver, E.rm, E.rv⟩ E' w' ∧
        ∀ (i : Nat) (r : LR) (c : List PV), ins[i]? = some r → outs[i]? = some c → E'.R (lent + i) = ⟨1, .sli r.e r.sz false c⟩ :=
      ⟨E', ⟨hs.wok.rows, hs.wok.inj, hs.wok.live, hs.wok.pos, hs.wok.base, ⟨hs.wok.kept.os, hs.wok.kept.tape, hs.wok.kept.output, hs.wok.kept.size, hs.wok.kept.block⟩, hs.wok.pin⟩, fun i r c h1 h2 => by
        have := hat i r c h1 h2
        rw [Nat.zero_add] at this
        rw [hs.rw]; exact this⟩
    split at hk
    · rename_i r hr
      obtain ⟨p, v, hk, hv, hrep⟩ := res_sound hT hs hk
      subst hk
      have := hrep.v_eq; subst this
      refine ⟨hs.defers, v, ?_, rfl, hlast⟩
      rw [run_results (vs := [v]) (by simp [hr]) hn4 fun i a b => by
        have hi : i = 0 := by simp [hr] at a; omega
        subst hi
        simpa [hr] using hv]
      rfl
    · rename_i hr
      subst hk
      refine ⟨hs.defers, _, ?_, rfl, hlast⟩
      rw [run_results (vs := []) (by simp [hr]) hn4 fun i a b => absurd a (by simp [hr])]
      rfl
    · exact hk.elim
  cases e with
  | normal => obtain ⟨s, hs, hk⟩ := hq; exact fin s hs hk
  | ret => obtain ⟨s, hs, hk⟩ := hq; exact fin s hs hk
  | exit id => obtain ⟨s, hs, hk⟩ := hq; exact hk.elim
  | goto l => exact hq.elim
  | panic ch => exact hq.elim
  | outgrown => exact hq.elim

end Go.Abs
