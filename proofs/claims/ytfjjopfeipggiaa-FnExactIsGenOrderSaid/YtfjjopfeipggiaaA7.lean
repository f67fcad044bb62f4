/- DERIVED by an AI agent. Contracts; the operations that compute or read, all together, calls among them. No program in sight. -/
import Derived.Test.YtfjjopfeipggiaaA6
namespace Go.Abs
set_option linter.unusedSimpArgs false

/-- What a call hands back: readings of memory made by the call; rows that are the caller's from then on. -/
inductive RV where
  | im (p : PV)
  | fr (e : TypeId) (sz : Nat) (cells : List PV)
  | ag (l : List RV)
  | tup (l : List RV)

/-- What is below B or among bs is not read. -/
def Env.out (B : Nat) (bs : List Nat) : Env := { R := fun _ => ⟨0, .dead⟩, rm := fun _ => none, rv := fun _ => default, L := fun b => b < B ∨ b ∈ bs, B := B }
/-- The ghost of a call's arguments. -/
def Env.inn (B : Nat) : Env := { R := fun _ => ⟨0, .dead⟩, rm := fun _ => none, rv := fun _ => default, L := fun _ => False, B := B }

/-- The blocks of a result's rows. -/
def blk (lv : List (Value × Option Nat)) : List Nat := lv.filterMap (·.2)

/-- A result; its rows are listed: the slice's value, its block. -/
inductive OutR (w : World) (E : Env) : RV → Value → List (Value × Option Nat) → Prop
  | im {p : PV} {v : Value} (h : Rep w E.bare E.B p v) : OutR w E (.im p) v []
  | nil {e sz : Nat} : OutR w E (.fr e sz []) (.slice none 0 0) [(.slice none 0 0, none)]
  | fr {e sz b n cap : Nat} {cells : List PV} {vs rest : List Value} (hB : E.B ≤ b) (hh : w.heap[b]? = some (.cells (vs ++ rest).toArray e (0, 0)))
      (hn : vs.length = n * sz) (hc : n ≤ cap) (hm : cap ≤ maxLen) (hl : (vs ++ rest).length = cap * sz) (hr : RepL w E.bare E.B cells vs) :
      OutR w E (.fr e sz cells) (.slice (some ⟨b, 0, none⟩) n cap) [(.slice (some ⟨b, 0, none⟩) n cap, some b)]
  | ag {l : List RV} {vs : List Value} {bss : List (List (Value × Option Nat))} (h1 : l.length = vs.length) (h2 : l.length = bss.length)
      (hh : ∀ i (a : i < l.length) (b : i < vs.length) (c : i < bss.length), OutR w E l[i] vs[i] bss[i]) : OutR w E (.ag l) (.agg vs.toArray) bss.flatten
  | tup {l : List RV} {vs : List Value} {bss : List (List (Value × Option Nat))} (h1 : l.length = vs.length) (h2 : l.length = bss.length)
      (hh : ∀ i (a : i < l.length) (b : i < vs.length) (c : i < bss.length), OutR w E l[i] vs[i] bss[i]) : OutR w E (.tup l) (.tuple vs.toArray) bss.flatten

/-- A function that has a body of its own. -/
def Enters (P : Program) (f : FuncId) : Prop := ∃ fn, P.funcs[f]? = some fn ∧ (fn.name == "runtime.NumGoroutine") = false ∧ fn.body.isNone = false

/-- A CONTRACT: called with arguments that read so, in whatever memory, the function hands this back; of what was there nothing has turned. -/
def AC (P : Program) (f : FuncId) (args : List PV) (rv : RV) : Prop :=
  Enters P f ∧ ∀ (w : World) (vals : List Value), RepL w (Env.inn w.heap.size) 0 args vals →
    Calls P f vals.toArray w fun e w' => ∃ v lv, e = .returned v ∧ Ext w w' ∧ OutR w' (Env.out w.heap.size (blk lv)) rv v lv ∧ (blk lv).Nodup

/-- A result as a value that is only read. -/
def RV.imm : RV → PV
  | .im p => setIf true p
  | .fr _ sz cells => .sl true sz cells
  | .ag l => .ag (l.attach.map fun ⟨x, _⟩ => x.imm)
  | .tup l => .tup (l.attach.map fun ⟨x, _⟩ => x.imm)

theorem RV.imm_ag (l : List RV) : (RV.ag l).imm = .ag (l.map RV.imm) := by rw [RV.imm]; simp
theorem RV.imm_tup (l : List RV) : (RV.tup l).imm = .tup (l.map RV.imm) := by rw [RV.imm]; simp

theorem mem_blk_flatten {bss : List (List (Value × Option Nat))} {i : Nat} (h : i < bss.length) {b : Nat} (hb : b ∈ blk bss[i]) : b ∈ blk bss.flatten := by
  simp only [blk, List.mem_filterMap] at hb ⊢
  obtain ⟨x, hx, he⟩ := hb
  exact ⟨x, List.mem_flatten.2 ⟨_, List.getElem_mem h, hx⟩, he⟩

/-- A result is read by whoever holds no block of its own among those that the call made or that were there. -/
theorem OutR.rep {w : World} {E E' : Env} {rv : RV} {v : Value} {lv : List (Value × Option Nat)} (h : OutR w E rv v lv) (h1 : ∀ b, ¬ E.L b → ¬ E'.L b) (h2 : ∀ b ∈ blk lv, ¬ E'.L b) (hB : E'.B ≤ E.B) : Rep w E' 0 rv.imm v := by
  have hl : Lasts w w E.bare E'.bare := ⟨fun b _ hb => ⟨rfl, h1 b hb⟩, fun _ => Nat.le_refl _, fun _ _ h => absurd h (by simp [Env.bare, RK.slice]), fun _ _ h => absurd h (by simp [Env.bare, RK.nd]), Nat.le_refl _⟩
  induction h with
  | im h => rw [RV.imm]; exact rep_setIf (h.mono hl (Nat.le_refl _)) (by simpa [Env.lo] using hB)
  | nil => rw [RV.imm]; exact .sl (fun _ => undef) (by simp) (Nat.le_refl _) (Nat.zero_le _) (fun i hi => absurd hi (by simp)) (fun i hi => absurd hi (by simp))
  | @fr e sz b n cap cells vs rest hb hh hn hc hm hlen hr =>
    rw [RV.imm]
    have hr' := hr.mono hl (Nat.le_refl _)
    refine .sl (fun i => vs.getD i undef) (hr.1.trans hn) hc hm (fun i hi => ⟨b, 0, rfl, by simp [Env.lo]; omega, h2 b (by simp [blk]), ?_⟩) (fun i hi => ?_)
    · have hi' : i < vs.length := by rw [← hr.1]; exact hi
      rw [Nat.zero_add, cell_of_list hh (by simp; omega)]
      simp [List.getElem_append_left hi', List.getD, hi']
    · have hi' : i < vs.length := by rw [← hr.1]; exact hi
      have e : vs.getD i undef = vs[i] := by simp [List.getD, hi']
      rw [e]
      exact (hr'.2 i hi hi').low (by simp [Env.lo]; omega)
  | ag e1 e2 hh ih =>
    rw [RV.imm_ag]
    refine .ag (by simpa using e1) (fun i a b => ?_)
    simp only [List.getElem_map]
    exact ih i (by simpa using a) b (by rw [← e2]; simpa using a) (fun x hx => h2 x (mem_blk_flatten _ hx))
  | tup e1 e2 hh ih =>
    rw [RV.imm_tup]
    refine .tup (by simpa using e1) (fun i a b => ?_)
    simp only [List.getElem_map]
    exact ih i (by simpa using a) b (by rw [← e2]; simpa using a) (fun x hx => h2 x (mem_blk_flatten _ hx))

/-- A value as an argument: read only, for the time of the call. -/
def lend (rw : Nat → Row) : Nat → PV → PV
  | 0, _ => .junk
  | n + 1, p =>
    match p with
    | .v x => if isNil x = true then .sl false 1 [] else .v x
    | .sl _ sz c => .sl false sz c
    | .own k ver => if (rw k).ver = ver then (match (rw k).kind with | .nil => .sl false 1 [] | .sli _ sz _ c => .sl false sz c | _ => .junk) else .junk
    | .ref k ver off => if (rw k).ver = ver then (match (rw k).kind with | .box _ c => .eref false (c.map (lend rw n)) off | .sli _ _ _ c => .eref false c off | _ => .junk) else .junk
    | .eref _ c off => .eref false c off
    | .ag c => .ag (c.map (lend rw n))
    | .tup _ => .junk
    | .clo f c => .clo f (c.map (lend rw n))
    | .junk => .junk

theorem lasts_inn (w : World) (E : Env) (B : Nat) : Lasts w w E.bare (Env.inn B).bare :=
  ⟨fun b _ _ => ⟨rfl, fun h => h⟩, fun _ => Nat.le_refl _, fun _ _ h => absurd h (by simp [Env.bare, RK.slice]), fun _ _ h => absurd h (by simp [Env.bare, RK.nd]), Nat.le_refl _⟩
theorem lasts_inn' (w : World) (B : Nat) : Lasts w w (Env.inn B) (Env.inn B).bare :=
  ⟨fun b _ _ => ⟨rfl, fun h => h⟩, fun _ => Nat.le_refl _, fun _ _ h => absurd h (by simp [Env.bare, RK.slice]), fun _ _ h => absurd h (by simp [Env.bare, RK.nd]), Nat.zero_le _⟩

theorem rep_nil (w : World) (E : Env) (lo : Nat) (fr : Bool) (sz : Nat) : Rep w E lo (.sl fr sz []) (.slice none 0 0) :=
  .sl (fun _ => undef) (by simp) (Nat.le_refl _) (Nat.zero_le _) (fun i hi => absurd hi (by simp)) (fun i hi => absurd hi (by simp))

theorem lend_sound {G : Ghost} {E : Env} {w : World} (hw : WOk G E w) (B : Nat) : ∀ (n : Nat) {p : PV} {x : Value}, Rep w E 0 p x → Rep w (Env.inn B) 0 (lend E.R n p) x := by
  intro n
  induction n with
  | zero => intro p x _; exact .junk _
  | succ n ih =>
    intro p x h
    cases h with
    | v x =>
      simp only [lend]
      by_cases hn : isNil x = true
      · rw [if_pos hn, isNil_eq hn]; exact rep_nil _ _ _ _ _
      · rw [if_neg hn]; exact .v _
    | @sl _ _ fr sz len cap cells a cs hl hc hm hr hh =>
      simp only [lend]
      refine .sl cs hl hc hm (fun i hi => ?_) (fun i hi => (hh i hi).mono (lasts_inn w E B) (by simp [Env.lo]))
      obtain ⟨b, o, ha, hb, hL, hcell⟩ := hr i hi
      exact ⟨b, o, ha, by simp [Env.lo], fun h => h, hcell⟩
    | @own _ _ k ver x hv hx =>
      simp only [lend]
      by_cases he : (E.R k).ver = ver
      · rw [if_pos he]
        have hrow := hw.rows k
        unfold RowOk at hrow
        cases hk : (E.R k).kind with
        | dead => exact .junk _
        | box t c => exact .junk _
        | nil =>
          simp only [hk] at hrow ⊢
          rw [hx he (by rw [hk]; rfl), hrow.2]
          exact rep_nil _ _ _ _ _
        | sli e sz fz c =>
          simp only [hk] at hrow ⊢
          rw [hx he (by rw [hk]; rfl)]
          rcases hrow with ⟨h1, h2, h3⟩ | ⟨b, n, cap, vs, rest, h1, h2, h3, h4, h5, h6, h7, h8, h9⟩
          · subst h3; rw [h2]; exact rep_nil _ _ _ _ _
          · rw [h3]
            refine .sl (fun i => vs.getD i undef) (h9.1.trans h5) h6 h7 (fun i hi => ⟨b, 0, rfl, by simp [Env.lo], fun h => h, ?_⟩) (fun i hi => ?_)
            · have hi' : i < vs.length := by rw [← h9.1]; exact hi
              rw [Nat.zero_add, cell_of_list h4 (by simp; omega)]
              simp [List.getElem_append_left hi', List.getD, hi']
            · have hi' : i < vs.length := by rw [← h9.1]; exact hi
              have e : vs.getD i undef = vs[i] := by simp [List.getD, hi']
              rw [e]
              exact (h9.2 i hi hi').mono (lasts_inn w E B) (by simp [Env.lo])
      · rw [if_neg he]; exact .junk _
    | @ref _ _ k ver off x hv hx =>
      simp only [lend]
      by_cases he : (E.R k).ver = ver
      · rw [if_pos he]
        have hrow := hw.rows k
        unfold RowOk at hrow
        cases hk : (E.R k).kind with
        | dead => exact .junk _
        | nil => exact .junk _
        | box t c =>
          simp only [hk] at hrow ⊢
          obtain ⟨b, vs, h1, h2, h3, h4⟩ := hrow
          obtain ⟨b', h1', hx⟩ := hx he (by rw [hk]; rfl)
          rw [h1] at h1'; cases h1'
          rw [hx]
          have := Rep.eref (w := w) (E := Env.inn B) (lo := 0) (fr := false) (cells := c.map (lend E.R n)) (off := off) (b := b) (o := 0) (fun i => vs.getD i undef)
            (fun i hi => by
              have hi' : i < vs.length := by rw [← h4.1]; simpa using hi
              refine ⟨by simp [Env.lo], fun h => h, ?_⟩
              rw [Nat.zero_add, cell_of_list h3 hi']
              simp [List.getD, hi'])
            (fun i hi => by
              have hi0 : i < c.length := by simpa using hi
              have hi' : i < vs.length := by rw [← h4.1]; exact hi0
              have e : vs.getD i undef = vs[i] := by simp [List.getD, hi']
              rw [e]
              simp only [List.getElem_map]
              exact (ih (h4.2 i hi0 hi')).mono (lasts_inn' w B) (by simp [Env.lo]))
          simpa using this
        | sli e sz fz c =>
          simp only [hk] at hrow ⊢
          obtain ⟨b', h1', hx⟩ := hx he (by rw [hk]; rfl)
          rcases hrow with ⟨h1, h2, h3⟩ | ⟨b, m, cap, vs, rest, h1, h2, h3, h4, h5, h6, h7, h8, h9⟩
          · rw [h1] at h1'; exact absurd h1' (by simp)
          · rw [h1] at h1'
            obtain rfl : b = b' := by simpa using h1'
            rw [hx]
            have := Rep.eref (w := w) (E := Env.inn B) (lo := 0) (fr := false) (cells := c) (off := off) (b := b) (o := 0) (fun i => vs.getD i undef)
              (fun i hi => by
                have hi' : i < vs.length := by rw [← h9.1]; exact hi
                refine ⟨by simp [Env.lo], fun h => h, ?_⟩
                rw [Nat.zero_add, cell_of_list h4 (by simp; omega)]
                simp [List.getElem_append_left hi', List.getD, hi'])
              (fun i hi => by
                have hi' : i < vs.length := by rw [← h9.1]; exact hi
                have e : vs.getD i undef = vs[i] := by simp [List.getD, hi']
                rw [e]
                exact (h9.2 i hi hi').mono (lasts_inn w E B) (by simp [Env.lo]))
            simpa using this
      · rw [if_neg he]; exact .junk _
    | @eref _ _ fr cells off b o cs hr hh =>
      simp only [lend]
      refine .eref cs (fun i hi => ?_) (fun i hi => (hh i hi).mono (lasts_inn w E B) (by simp [Env.lo]))
      obtain ⟨hb, hL, hcell⟩ := hr i hi
      exact ⟨by simp [Env.lo], fun h => h, hcell⟩
    | ag hl hh =>
      simp only [lend]
      exact .ag (by simpa using hl) (fun i a b => by simp only [List.getElem_map]; exact ih (hh i (by simpa using a) b))
    | tup hl hh => simp only [lend]; exact .junk _
    | clo hl hh =>
      simp only [lend]
      exact .clo (by simpa using hl) (fun i a b => by simp only [List.getElem_map]; exact ih (hh i (by simpa using a) b))
    | junk x => simp only [lend]; exact .junk _

end Go.Abs
