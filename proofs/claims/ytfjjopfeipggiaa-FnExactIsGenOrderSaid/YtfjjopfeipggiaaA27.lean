/- DERIVED by an AI agent. A function's contract from its text. No program in sight. -/
import Derived.Test.YtfjjopfeipggiaaA26
namespace Go.Abs
set_option linter.unusedSimpArgs false
set_option linter.unusedVariables false

def resK (T : Tab) (s : St) (r : ResultVar) (K : PV → Prop) : Prop :=
  match r with
  | .tmp t => K (s.sl t)
  | .cell a t => ptrK s.rw (s.sl a) fun m c off => ldK T t m c off K

def resL (T : Tab) (s : St) : List ResultVar → (List PV → Prop) → Prop
  | [], K => K []
  | r :: rs, K => resK T s r fun p => resL T s rs fun ps => K (p :: ps)

/-- The function's end: its results. -/
def retK (T : Tab) (s : St) (rs : List ResultVar) (rv : RV) : Prop :=
  match rs with
  | [r] => resK T s r fun p => out2 s.rw p rv List.Nodup
  | rs => resL T s rs fun ps => out2 s.rw (.tup ps) rv List.Nodup

def St.init (args : List PV) : St := ⟨fun i => args.getD i .junk, fun _ => ⟨0, .dead⟩⟩

def endK (T : Tab) (rs : List ResultVar) (rv : RV) : AX → St → Prop
  | .norm, s => retK T s rs rv
  | .ret, s => retK T s rs rv
  | .exit _, _ => False

section
variable {P : Program} {T : Tab} {G : Ghost} {E : Env} {s : St} {a : Act} {w : World}

def resOne (tmps : Array Value) : ResultVar → Sem Value
  | .tmp t => pure (tmps.getD t undef)
  | .cell a t => do loadVar t (← asAddr (tmps.getD a undef))

theorem res_sound (hT : T.Ok P) (hs : SimE G E s a w) {r : ResultVar} {K : PV → Prop} (hk : resK T s r K) : ∃ p v, K p ∧ (resOne a.tmps r).run P w = .ok v w ∧ Rep w E 0 p v := by
  cases r with
  | tmp t => exact ⟨_, _, hk, rfl, hs.slots t⟩
  | cell ad t =>
    obtain ⟨m, c, off, hk, hat⟩ := ptrK_sound (K := fun m c off => ldK T t m c off K) hk hs.rw hs.wok (hs.slots ad)
    obtain ⟨p, v, hp, hv, hr⟩ := ldK_sound hT hk hat
    obtain ⟨b, o, cs, hx, _⟩ := hat
    refine ⟨p, v, hp, ?_, hr⟩
    rw [hx] at hv
    simp only [resOne, hx]
    simpa [Instr.loadAt, Instr.sureAddr, asAddr] using hv

theorem resL_sound (hT : T.Ok P) (hs : SimE G E s a w) : ∀ (rs : List ResultVar) (K : List PV → Prop), resL T s rs K → ∃ ps vs, K ps ∧ RepL w E 0 ps vs ∧ vs.length = rs.length ∧ ∀ i (h : i < rs.length) (h' : i < vs.length), (resOne a.tmps rs[i]).run P w = .ok vs[i] w := by
  intro rs
  induction rs with
  | nil => intro K hk; exact ⟨[], [], hk, ⟨rfl, fun i h => absurd h (by simp)⟩, rfl, fun i h => absurd h (by simp)⟩
  | cons r rs ih =>
    intro K hk
    obtain ⟨p, v, hk, hv, hr⟩ := res_sound hT hs hk
    obtain ⟨ps, vs, hk, hrl, hlen, hvs⟩ := ih _ hk
    refine ⟨p :: ps, v :: vs, hk, ⟨by simp [hrl.1], fun i h h' => ?_⟩, by simp [hlen], fun i h h' => ?_⟩
    · cases i with
      | zero => exact hr
      | succ i => exact hrl.2 i (by simpa using h) (by simpa using h')
    · cases i with
      | zero => exact hv
      | succ i => exact hvs i (by simpa using h) (by simpa using h')

theorem run_results {fn : Func} {tmps : Array Value} {vs : List Value} (hl : vs.length = fn.results.toList.length) (hn : fn.results.toList.length ≤ 4) (h : ∀ i (a : i < fn.results.toList.length) (b : i < vs.length), (resOne tmps fn.results.toList[i]).run P w = .ok vs[i] w) :
    (results fn tmps).run P w = .ok (if h : vs.toArray.size = 1 then vs.toArray[0] else .tuple vs.toArray) w := by
  have e : ∀ (f g : ResultVar → Sem Value), f = g → (do let vs ← fn.results.mapM f; pure (if h : vs.size = 1 then vs[0] else .tuple vs) : Sem Value) = (do let vs ← fn.results.mapM g; pure (if h : vs.size = 1 then vs[0] else .tuple vs)) := by
    rintro f g rfl; rfl
  have e1 : results fn tmps = (do let vs ← fn.results.mapM (resOne tmps); pure (if h : vs.size = 1 then vs[0] else .tuple vs)) := by
    unfold results
    exact e _ _ (by funext x; cases x <;> rfl)
  rw [e1]
  generalize fn.results = rs at *
  obtain ⟨l⟩ := rs
  have step : ∀ (l : List ResultVar) (vs : List Value), vs.length = l.length → l.length ≤ 4 → (∀ i (a : i < l.length) (b : i < vs.length), (resOne tmps l[i]).run P w = .ok vs[i] w) → ((⟨l⟩ : Array ResultVar).mapM (resOne tmps)).run P w = .ok vs.toArray w := by
    intro l vs hl hn h
    match l, vs, hl, hn with
    | [], [], _, _ => simp
    | [r1], [v1], _, _ =>
      have h1 := h 0 (by simp) (by simp)
      simp at h1
      simp [h1]
    | [r1, r2], [v1, v2], _, _ =>
      have h1 := h 0 (by simp) (by simp)
      have h2 := h 1 (by simp) (by simp)
      simp at h1 h2
      simp [h1, h2]
    | [r1, r2, r3], [v1, v2, v3], _, _ =>
      have h1 := h 0 (by simp) (by simp)
      have h2 := h 1 (by simp) (by simp)
      have h3 := h 2 (by simp) (by simp)
      simp at h1 h2 h3
      simp [h1, h2, h3]
    | [r1, r2, r3, r4], [v1, v2, v3, v4], _, _ =>
      have h1 := h 0 (by simp) (by simp)
      have h2 := h 1 (by simp) (by simp)
      have h3 := h 2 (by simp) (by simp)
      have h4 := h 3 (by simp) (by simp)
      simp at h1 h2 h3 h4
      simp [h1, h2, h3, h4]
  have hmap := step l vs hl hn h
  rw [Sem.run_bind, hmap]
  rfl

theorem ret_sound (hT : T.Ok P) (hs : SimE G E s a w) {fn : Func} (hn : fn.results.toList.length ≤ 4) {rv : RV} (hk : retK T s fn.results.toList rv) :
    ∃ v lv, (results fn a.tmps).run P w = .ok v w ∧ OutR w (Env.out G.w0.heap.size (blk lv)) rv v lv ∧ (blk lv).Nodup := by
  have fin : ∀ (p : PV) (v : Value), out2 s.rw p rv List.Nodup → Rep w E 0 p v → ∃ lv, OutR w (Env.out G.w0.heap.size (blk lv)) rv v lv ∧ (blk lv).Nodup := fun p v hk hp => by
    rw [← hs.rw] at hk
    obtain ⟨ids, hnd, hids, hout⟩ := out2_sound hs.wok p rv _ v hk hp
    obtain ⟨lv, h1, h2⟩ := hout (blocksOf E ids) fun b hb => by
      obtain ⟨k, hk, hkb⟩ := List.mem_filterMap.1 hb
      obtain ⟨_, e, sz, c, hkd⟩ := hids k hk
      exact ⟨k, hkb, by rw [hkd]; rfl⟩
    rw [← h2] at h1
    exact ⟨lv, h1, by rw [h2]; exact blocks_nodup hs.wok ids hnd hids⟩
  unfold retK at hk
  split at hk
  · rename_i r hr
    obtain ⟨p, v, hk, hv, hrep⟩ := res_sound hT hs hk
    obtain ⟨lv, h1, h2⟩ := fin p v hk hrep
    refine ⟨v, lv, ?_, h1, h2⟩
    rw [run_results (vs := [v]) (by simp [hr]) hn fun i a b => by
      have hi : i = 0 := by simp [hr] at a; omega
      subst hi
      simpa [hr] using hv]
    rfl
  · rename_i rs hne
    obtain ⟨ps, vs, hk, hrl, hlen, hvs⟩ := resL_sound hT hs _ _ hk
    obtain ⟨lv, h1, h2⟩ := fin (.tup ps) (.tuple vs.toArray) hk (.tup hrl.1 hrl.2)
    refine ⟨_, lv, ?_, h1, h2⟩
    rw [run_results hlen hn hvs]
    have : ¬ vs.toArray.size = 1 := by
      intro h1
      have : fn.results.toList.length = 1 := by rw [← hlen]; simpa using h1
      obtain ⟨r, hr⟩ := List.length_eq_one_iff.1 this
      exact hne r hr
    rw [dif_neg this]

end

/-- THE CONTRACT OF A FUNCTION, FROM ITS TEXT. -/
theorem AC.of {P : Program} {T : Tab} {f : FuncId} {fn : Func} {c : Code} {args : List PV} {rv : RV} (hT : T.Ok P) (hm : P.follows .mixedOrders = true) (hf : P.funcs[f]? = some fn) (hname : (fn.name == "runtime.NumGoroutine") = false)
    (hb : fn.body = some c) (hfit : (fits fn.ntmps c && decide (args.length ≤ fn.ntmps) && decide (fn.results.toList.length ≤ 4)) = true)
    (h : cwp P T c (endK T fn.results.toList rv) (St.init args)) : AC P f args rv := by
  simp only [Bool.and_eq_true, decide_eq_true_eq] at hfit
  obtain ⟨⟨hfit, hargs⟩, hn4⟩ := hfit
  refine ⟨⟨fn, hf, hname, by rw [hb]; rfl⟩, fun w vals hvals => ?_⟩
  have hlen : args.length = vals.length := hvals.1
  let G : Ghost := ⟨w, fun _ => False, fn.ntmps, fun _ => 0, fun _ => none, fun _ => default⟩
  let act : Act := { tmps := vals.toArray ++ Array.replicate (fn.ntmps - vals.toArray.size) undef, defers := [] }
  have hsim : Sim G (St.init args) act w := by
    refine ⟨Env.inn w.heap.size, rfl, ⟨fun k => trivial, fun k k' b h => (by cases h), fun b => ⟨fun h => h.elim, fun ⟨k, h, _⟩ => (by cases h)⟩, fun k h => (by cases h), rfl, ⟨rfl, rfl, rfl, Nat.le_refl _, fun _ _ _ => rfl⟩, fun k => ⟨Nat.zero_le _, fun _ h => (by cases h)⟩⟩, ?_, rfl, fun i => ?_⟩
    · show (vals.toArray ++ Array.replicate (fn.ntmps - vals.toArray.size) undef).size = fn.ntmps
      simp; omega
    · show Rep w (Env.inn w.heap.size) 0 (args.getD i .junk) ((vals.toArray ++ Array.replicate (fn.ntmps - vals.toArray.size) undef).getD i undef)
      by_cases hi : i < args.length
      · have e1 : args.getD i .junk = args[i] := by simp [List.getD, hi]
        have e2 : (vals.toArray ++ Array.replicate (fn.ntmps - vals.toArray.size) undef).getD i undef = vals[i]'(by omega) := by
          rw [Array.getD_eq_getD_getElem?, Array.getElem?_append_left (by simp; omega)]
          simp [(by omega : i < vals.length)]
        rw [e1, e2]
        exact hvals.2 i hi (by omega)
      · have e1 : args.getD i .junk = .junk := by simp [List.getD, hi]
        rw [e1]; exact .junk _
  have hwp := cwp_sound (G := G) hT hm c hfit _ _ h act w hsim
  refine calls_of_wp hf hb (wp_mono hwp fun e a' w' hq => ?_)
  have fin : ∀ s, Sim G s a' w' → retK T s fn.results.toList rv → a'.defers = [] ∧ ∃ v, (results fn a'.tmps).run P w' = .ok v w' ∧ ∃ v' lv, Ending.returned v = .returned v' ∧ Ext w w' ∧ OutR w' (Env.out w.heap.size (blk lv)) rv v' lv ∧ (blk lv).Nodup := fun s hs hk => by
    obtain ⟨E, hs⟩ := hs
    obtain ⟨v, lv, h1, h2, h3⟩ := ret_sound hT hs hn4 hk
    have hkept := hs.wok.kept
    exact ⟨hs.defers, v, h1, v, lv, rfl, ⟨hkept.os, hkept.tape, hkept.output, hkept.size, fun b hb => hkept.block b hb fun h => h⟩, h2, h3⟩
  cases e with
  | normal => obtain ⟨s, hs, hk⟩ := hq; exact fin s hs hk
  | ret => obtain ⟨s, hs, hk⟩ := hq; exact fin s hs hk
  | exit id => obtain ⟨s, hs, hk⟩ := hq; exact hk.elim
  | goto l => exact hq.elim
  | panic ch => exact hq.elim
  | outgrown => exact hq.elim

#print axioms AC.of
end Go.Abs
