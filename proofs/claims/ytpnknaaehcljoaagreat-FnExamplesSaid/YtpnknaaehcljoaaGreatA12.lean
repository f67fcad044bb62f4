/- DERIVED by an AI agent. The contract of a function that is given rows to write into, from its text. No program in sight. -/
import Derived.Test.YtpnknaaehcljoaaGreatA11
namespace Go.Abs
set_option linter.unusedSimpArgs false
set_option linter.unusedVariables false
def retG (T : Tab) (s : St) (rs : List ResultVar) (post : (Nat → Row) → PV → Prop) : Prop :=
  match rs with
  | [r] => resK T s r fun p => post s.rw p
  | rs => resL T s rs fun ps => post s.rw (.tup ps)
def endG (T : Tab) (rs : List ResultVar) (post : (Nat → Row) → PV → Prop) : AX → St → Prop
  | .norm, s => retG T s rs post
  | .ret, s => retG T s rs post
  | .exit _, _ => False
def rowLen : RK → Prop | .sli _ sz _ c => c.length ≤ 9223372036854775807 * sz | .tab _ c => c.length ≤ 9223372036854775807 | _ => True
def St.initG (args : List PV) (R0 : Nat → Row) : St := ⟨fun i => args.getD i .junk, R0⟩
theorem AG.ofS [Held] {P : Program} {T : Tab} {f : FuncId} {fn : Func} {c : Code} {args : List PV} {R0 : Nat → Row} {post : (Nat → Row) → PV → Prop} (hT : T.Ok P) (hm : P.follows .mixedOrders = true) (hf : P.funcs[f]? = some fn) (hname : (fn.name == "runtime.NumGoroutine") = false)
    (hb : fn.body = some c) (hfit : (fits fn.ntmps c && decide (args.length ≤ fn.ntmps) && decide (fn.results.toList.length ≤ 4)) = true)
    (h : (∀ k, rowLen (R0 k).kind) → semw P fn.ntmps c (endG T fn.results.toList post) (St.initG args R0)) : AG P f args R0 post := by
  simp only [Bool.and_eq_true, decide_eq_true_eq] at hfit
  obtain ⟨⟨hfit, hargs⟩, hn4⟩ := hfit
  refine ⟨⟨fn, hf, hname, by rw [hb]; rfl⟩, fun w M E vals hw hR hvals => ?_⟩
  have hlen' : args.length = vals.length := hvals.1
  let G : Ghost := ⟨w, M, fn.ntmps, E.R, E.rm, E.rv, E.X⟩
  let act : Act := { tmps := vals.toArray ++ Array.replicate (fn.ntmps - vals.toArray.size) undef, defers := [] }
  have hsim : Sim G (St.initG args R0) act w := by
    refine ⟨E, hR, ⟨hw.rows, hw.inj, hw.live, hw.pos, hw.base, hw.xs, hw.fx, hw.apart, ⟨hw.kept.os, hw.kept.tape, hw.kept.output, hw.kept.size, hw.kept.block⟩, hw.pin⟩, ?_, rfl, fun i => ?_⟩
    · show (vals.toArray ++ Array.replicate (fn.ntmps - vals.toArray.size) undef).size = fn.ntmps
      simp; omega
    · show Rep w E 0 (args.getD i .junk) ((vals.toArray ++ Array.replicate (fn.ntmps - vals.toArray.size) undef).getD i undef)
      by_cases hi : i < args.length
      · have e1 : args.getD i .junk = args[i] := by simp [List.getD, hi]
        have e2 : (vals.toArray ++ Array.replicate (fn.ntmps - vals.toArray.size) undef).getD i undef = vals[i]'(by omega) := by
          rw [Array.getD_eq_getD_getElem?, Array.getElem?_append_left (by simp; omega)]
          simp [(by omega : i < vals.length)]
        rw [e1, e2]
        exact hvals.2 i hi (by omega)
      · have e1 : args.getD i .junk = .junk := by simp [List.getD, hi]
        rw [e1]; exact .junk _
  have hl : ∀ k, rowLen (R0 k).kind := fun k => by
    have hrow := hw.rows k
    unfold RowOk at hrow
    rw [hR] at hrow
    unfold rowLen
    cases hk : (R0 k).kind with
    | sli e sz fz c =>
      rw [hk] at hrow
      rcases hrow with ⟨_, _, hc⟩ | ⟨b, n, cap, vs, rest, h1, h2, h3, h4, h5, h6, h7, h8, h9⟩
      · subst hc; exact Nat.zero_le _
      · show c.length ≤ _
        rw [h9.1, h5]; exact Nat.mul_le_mul_right _ (Nat.le_trans h6 h7)
    | tab e c =>
      rw [hk] at hrow
      rcases hrow with ⟨_, _, hc⟩ | ⟨b, n, cap, vs, rest, h1, h2, h3, h4, h5, h6, h7, h8, h9⟩
      · subst hc; exact Nat.zero_le _
      · show c.length ≤ _
        rw [h9.1, h5]; exact Nat.le_trans h6 h7
    | _ => trivial
  have hwp := h hl G rfl act w hsim
  refine calls_of_wp hf hb (wp_mono hwp fun ee a' w' hlift => ?_)
  have fin : ∀ s, Sim G s a' w' → retG T s fn.results.toList post → a'.defers = [] ∧ ∃ v, (results fn a'.tmps).run P w' = .ok v w' ∧ ∃ (E' : Env) (p : PV) (v' : Value), Ending.returned v = .returned v' ∧ WOk ⟨w, M, 0, E.R, E.rm, E.rv, E.X⟩ E' w' ∧
        Rep w' E' 0 p v' ∧ post E'.R p := fun s hs hk => by
    obtain ⟨E', hs⟩ := hs
    have hwok : WOk ⟨w, M, 0, E.R, E.rm, E.rv, E.X⟩ E' w' := ⟨hs.wok.rows, hs.wok.inj, hs.wok.live, hs.wok.pos, hs.wok.base, hs.wok.xs, hs.wok.fx, hs.wok.apart, ⟨hs.wok.kept.os, hs.wok.kept.tape, hs.wok.kept.output, hs.wok.kept.size, hs.wok.kept.block⟩, hs.wok.pin⟩
    unfold retG at hk
    split at hk
    · rename_i r hr
      obtain ⟨p, v, hp, hv, hrep⟩ := res_sound hT hs hk
      refine ⟨hs.defers, v, ?_, E', p, v, rfl, hwok, hrep, by rw [hs.rw]; exact hp⟩
      rw [run_results (vs := [v]) (by simp [hr]) hn4 fun i a b => by
        have hi : i = 0 := by simp [hr] at a; omega
        subst hi
        simpa [hr] using hv]
      rfl
    · rename_i rs hne
      obtain ⟨ps, vs, hk, hrl, hlen, hvs⟩ := resL_sound hT hs _ _ hk
      refine ⟨hs.defers, .tuple vs.toArray, ?_, E', .tup ps, _, rfl, hwok, .tup hrl.1 hrl.2, by rw [hs.rw]; exact hk⟩
      rw [run_results hlen hn4 hvs]
      have : ¬ vs.toArray.size = 1 := by
        intro h1
        have : fn.results.toList.length = 1 := by rw [← hlen]; simpa using h1
        obtain ⟨r, hr⟩ := List.length_eq_one_iff.1 this
        exact hne r hr
      rw [dif_neg this]
  cases ee with
  | normal => obtain ⟨s, hs, hk⟩ := hlift; exact fin s hs hk
  | ret => obtain ⟨s, hs, hk⟩ := hlift; exact fin s hs hk
  | exit id => obtain ⟨s, hs, hk⟩ := hlift; exact hk.elim
  | goto l => exact hlift.elim
  | panic ch => exact hlift.elim
  | outgrown => exact hlift.elim
theorem AG.ofW [Held] {P : Program} {T : Tab} {f : FuncId} {fn : Func} {c : Code} {args : List PV} {R0 : Nat → Row} {post : (Nat → Row) → PV → Prop} (hT : T.Ok P) (hm : P.follows .mixedOrders = true) (hf : P.funcs[f]? = some fn) (hname : (fn.name == "runtime.NumGoroutine") = false)
    (hb : fn.body = some c) (hfit : (fits fn.ntmps c && decide (args.length ≤ fn.ntmps) && decide (fn.results.toList.length ≤ 4)) = true)
    (h : (∀ k, rowLen (R0 k).kind) → ∃ s', Wk (St.initG args R0) s' ∧ cwp P T c (endG T fn.results.toList post) s') : AG P f args R0 post :=
  AG.ofS hT hm hf hname hb hfit fun hl => by
    simp only [Bool.and_eq_true, decide_eq_true_eq] at hfit
    obtain ⟨s', hW, hC⟩ := h hl
    exact fun G hn a w hs => semw_of hT hm hfit.1.1 hC G hn a w (hW G a w hs)
theorem AG.of [Held] {P : Program} {T : Tab} {f : FuncId} {fn : Func} {c : Code} {args : List PV} {R0 : Nat → Row} {post : (Nat → Row) → PV → Prop} (hT : T.Ok P) (hm : P.follows .mixedOrders = true) (hf : P.funcs[f]? = some fn) (hname : (fn.name == "runtime.NumGoroutine") = false)
    (hb : fn.body = some c) (hfit : (fits fn.ntmps c && decide (args.length ≤ fn.ntmps) && decide (fn.results.toList.length ≤ 4)) = true)
    (h : (∀ k, rowLen (R0 k).kind) → cwp P T c (endG T fn.results.toList post) (St.initG args R0)) : AG P f args R0 post :=
  AG.ofW hT hm hf hname hb hfit fun hl => ⟨_, Wk.refl _, h hl⟩
end Go.Abs
