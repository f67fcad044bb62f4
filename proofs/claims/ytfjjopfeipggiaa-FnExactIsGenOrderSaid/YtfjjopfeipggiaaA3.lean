/- DERIVED by an AI agent. Reading through pointers and slices, abstractly; the operations that only compute or read. No program in sight. -/
import Derived.Test.YtfjjopfeipggiaaA2
namespace Go.Abs

/-- A cell that was read out of memory that is only read: whether that memory is the call's own is told anew. -/
def setIf (fr : Bool) (p : PV) : PV :=
  match p with
  | .v x => .v x
  | .sl _ sz c => .sl fr sz c
  | .eref _ c o => .eref fr c o
  | _ => .junk

inductive Md where
  | asis
  | set (fr : Bool)
def Md.fix (m : Md) (p : PV) : PV := match m with | .asis => p | .set fr => setIf fr p

theorem rep_setIf {w : World} {E : Env} {lo : Nat} {fr : Bool} {p : PV} {x : Value} (h : Rep w E.bare lo p x) (hl : E.lo 0 fr ≤ lo) : Rep w E 0 (setIf fr p) x := by
  cases h with
  | v x => exact .v _
  | @sl _ _ f sz len cap cells a cs hl' hc hm hr hh =>
    have e : E.bare.lo lo f = lo := by simp [Env.lo, Env.bare]
    have e2 : E.bare.bare = E.bare := rfl
    rw [e2, e] at hh
    refine .sl cs hl' hc hm (fun i hi => ?_) (fun i hi => (hh i hi).low hl)
    obtain ⟨b, o, ha, hb, hr⟩ := hr i hi
    rw [e] at hb
    exact ⟨b, o, ha, Nat.le_trans hl hb, hr⟩
  | @eref _ _ f cells off b o cs hr hh =>
    have e : E.bare.lo lo f = lo := by simp [Env.lo, Env.bare]
    have e2 : E.bare.bare = E.bare := rfl
    rw [e2, e] at hh
    refine .eref cs (fun i hi => ?_) (fun i hi => (hh i hi).low hl)
    obtain ⟨hb, hr⟩ := hr i hi
    rw [e] at hb
    exact ⟨Nat.le_trans hl hb, hr⟩
  | own a b => exact .junk _
  | ref a b => exact .junk _
  | ag a b => exact .junk _
  | tup a b => exact .junk _
  | clo a b => exact .junk _
  | junk x => exact .junk _

/-- A pointer's cells. -/
def ptrK (rw : Nat → Row) (p : PV) (K : Md → List PV → Nat → Prop) : Prop :=
  match p with
  | .ref k ver off => (rw k).ver = ver ∧ match (rw k).kind with | .box _ c => K .asis c off | .sli _ _ _ c => K (.set true) c off | _ => False
  | .eref fr c off => K (.set fr) c off
  | _ => False

def At (w : World) (E : Env) (m : Md) (cells : List PV) (x : Value) (off : Nat) : Prop :=
  ∃ (b o : Nat) (cs : Nat → Value), x = .pointer (some ⟨b, o + off, none⟩) ∧ ∀ i (h : i < cells.length), w.cell? ⟨b, o + i, none⟩ = some (cs i) ∧ Rep w E 0 (m.fix cells[i]) (cs i)

theorem cell_of_list {w : World} {b i : Nat} {vs : List Value} {t : TypeId} {fr : Nat × Nat} (h : w.heap[b]? = some (.cells vs.toArray t fr)) (hi : i < vs.length) :
    w.cell? ⟨b, i, none⟩ = some vs[i] := by
  rw [cell_of_row w b i vs.toArray t fr h]; simp [hi]

theorem ptrK_sound {rw : Nat → Row} {p : PV} {K : Md → List PV → Nat → Prop} {w : World} {E : Env} {G : Ghost} {x : Value}
    (hk : ptrK rw p K) (hR : E.R = rw) (hw : WOk G E w) (hp : Rep w E 0 p x) : ∃ m cells off, K m cells off ∧ At w E m cells x off := by
  subst hR
  cases hp with
  | @ref _ _ k ver off x hv hx =>
    obtain ⟨he, hk⟩ := hk
    have hrow := hw.rows k
    unfold RowOk at hrow
    cases hkd : (E.R k).kind with
    | dead => simp [hkd] at hk
    | nil => simp [hkd] at hk
    | box t cells =>
      simp only [hkd] at hk hrow
      obtain ⟨b, vs, h1, h2, h3, h4⟩ := hrow
      obtain ⟨b', h1', hx⟩ := hx he (by rw [hkd]; rfl)
      rw [h1] at h1'; cases h1'
      refine ⟨_, _, _, hk, b, 0, fun i => vs.getD i undef, by simpa using hx, fun i hi => ?_⟩
      have hi' : i < vs.length := by rw [← h4.1]; exact hi
      have e : vs.getD i undef = vs[i] := by simp [List.getD, hi']
      show _ = some (vs.getD i undef) ∧ Rep w E _ _ (vs.getD i undef)
      rw [e, Nat.zero_add]
      exact ⟨cell_of_list h3 hi', h4.2 i hi hi'⟩
    | sli e sz fz cells =>
      simp only [hkd] at hk hrow
      obtain ⟨b', h1', hx⟩ := hx he (by rw [hkd]; rfl)
      rcases hrow with ⟨h1, _, _⟩ | ⟨b, n, cap, vs, rest, h1, h2, h3, h4, h5, h6, h7, h8, h9⟩
      · rw [h1] at h1'; exact absurd h1' (by simp)
      · rw [h1] at h1'
        obtain rfl : b = b' := by simpa using h1'
        refine ⟨_, _, _, hk, b, 0, fun i => vs.getD i undef, by simpa using hx, fun i hi => ?_⟩
        have hi' : i < vs.length := by rw [← h9.1]; exact hi
        have e : vs.getD i undef = vs[i] := by simp [List.getD, hi']
        show _ = some (vs.getD i undef) ∧ Rep w E _ _ (vs.getD i undef)
        rw [e, Nat.zero_add]
        refine ⟨?_, rep_setIf (h9.2 i hi hi') (by simp [Env.lo])⟩
        rw [cell_of_list h4 (by simp; omega)]
        simp [List.getElem_append_left hi']
  | @eref _ _ fr cells off b o cs hr hh =>
    refine ⟨_, _, _, hk, b, o, cs, rfl, fun i hi => ⟨(hr i hi).2.2, rep_setIf (hh i hi) (Nat.le_refl _)⟩⟩
  | v x => exact hk.elim
  | sl => exact hk.elim
  | own => exact hk.elim
  | ag => exact hk.elim
  | tup => exact hk.elim
  | clo => exact hk.elim
  | junk => exact hk.elim

def isNil : Value → Bool
  | .slice none 0 0 => true
  | _ => false
theorem isNil_eq {x : Value} (h : isNil x = true) : x = .slice none 0 0 := by
  unfold isNil at h; split at h
  · rfl
  · cases h

/-- A slice's cells, to be read. -/
def slK (rw : Nat → Row) (p : PV) (K : Bool → Nat → List PV → Prop) : Prop :=
  match p with
  | .sl fr sz c => K fr sz c
  | .own k ver => (rw k).ver = ver ∧ match (rw k).kind with | .nil => K true 1 [] | .sli _ sz _ c => K true sz c | _ => False
  | .v x => isNil x = true ∧ K true 1 []
  | _ => False

def SlAt (w : World) (E : Env) (lo sz : Nat) (cells : List PV) (x : Value) : Prop :=
  ∃ (a : Option Addr) (len cap : Nat) (cs : Nat → Value), x = .slice a len cap ∧ cells.length = len * sz ∧ len ≤ cap ∧ cap ≤ maxLen ∧
    ∀ i (h : i < cells.length), ∃ b o, a = some ⟨b, o, none⟩ ∧ w.cell? ⟨b, o + i, none⟩ = some (cs i) ∧ Rep w E.bare lo cells[i] (cs i)

theorem slK_sound {rw : Nat → Row} {p : PV} {K : Bool → Nat → List PV → Prop} {w : World} {E : Env} {G : Ghost} {x : Value}
    (hk : slK rw p K) (hR : E.R = rw) (hw : WOk G E w) (hp : Rep w E 0 p x) : ∃ fr sz cells, K fr sz cells ∧ SlAt w E (E.lo 0 fr) sz cells x := by
  subst hR
  cases hp with
  | @sl _ _ fr sz len cap cells a cs hl hc hm hr hh =>
    refine ⟨_, _, _, hk, a, len, cap, cs, rfl, hl, hc, hm, fun i hi => ?_⟩
    obtain ⟨b, o, ha, hb, hL, hcell⟩ := hr i hi
    exact ⟨b, o, ha, hcell, hh i hi⟩
  | @own _ _ k ver x hv hx =>
    obtain ⟨he, hk⟩ := hk
    have hrow := hw.rows k
    unfold RowOk at hrow
    cases hkd : (E.R k).kind with
    | dead => simp [hkd] at hk
    | box t cells => simp [hkd] at hk
    | nil =>
      simp only [hkd] at hk hrow
      have := hx he (by rw [hkd]; rfl)
      subst this
      rw [hrow.2]
      exact ⟨_, _, _, hk, none, 0, 0, fun _ => undef, rfl, rfl, Nat.le_refl _, Nat.zero_le _, fun i hi => absurd hi (by simp)⟩
    | sli e sz fz cells =>
      simp only [hkd] at hk hrow
      have := hx he (by rw [hkd]; rfl)
      subst this
      rcases hrow with ⟨h1, h2, h3⟩ | ⟨b, n, cap, vs, rest, h1, h2, h3, h4, h5, h6, h7, h8, h9⟩
      · subst h3
        rw [h2]
        exact ⟨_, _, _, hk, none, 0, 0, fun _ => undef, rfl, by simp, Nat.le_refl _, Nat.zero_le _, fun i hi => absurd hi (by simp)⟩
      · rw [h3]
        refine ⟨_, _, _, hk, some ⟨b, 0, none⟩, n, cap, fun i => vs.getD i undef, rfl, by rw [h9.1, h5], h6, h7, fun i hi => ⟨b, 0, rfl, ?_⟩⟩
        have hi' : i < vs.length := by rw [← h9.1]; exact hi
        have e : vs.getD i undef = vs[i] := by simp [List.getD, hi']
        show _ = some (vs.getD i undef) ∧ Rep w E.bare _ _ (vs.getD i undef)
        rw [e, Nat.zero_add]
        refine ⟨?_, (h9.2 i hi hi').low (by simp [Env.lo])⟩
        rw [cell_of_list h4 (by simp; omega)]
        simp [List.getElem_append_left hi']
  | v x =>
    obtain ⟨hn, hk⟩ := hk
    rw [isNil_eq hn]
    exact ⟨_, _, _, hk, none, 0, 0, fun _ => undef, rfl, rfl, Nat.le_refl _, Nat.zero_le _, fun i hi => absurd hi (by simp)⟩
  | eref => exact hk.elim
  | ref => exact hk.elim
  | ag => exact hk.elim
  | tup => exact hk.elim
  | clo => exact hk.elim
  | junk => exact hk.elim

/-- What is read of a variable of type t. -/
def ldK (T : Tab) (t : TypeId) (m : Md) (cells : List PV) (off : Nat) (K : PV → Prop) : Prop :=
  0 < (T t).size ∧ match (T t).k.agg with
    | true => off + (T t).size ≤ cells.length ∧ K (.ag (((cells.drop off).take (T t).size).map m.fix))
    | false => off < cells.length ∧ K (m.fix (cells.getD off .junk))

theorem ldK_sound {P : Program} {T : Tab} (hT : T.Ok P) {t : TypeId} {m : Md} {cells : List PV} {off : Nat} {K : PV → Prop} {w : World} {E : Env} {x : Value}
    (hk : ldK T t m cells off K) (ha : At w E m cells x off) : ∃ p v, K p ∧ (Instr.loadAt t x).run P w = .ok v w ∧ Rep w E 0 p v := by
  obtain ⟨hs, hk⟩ := hk
  obtain ⟨b, o, cs, rfl, hcell⟩ := ha
  have hf := hT t hs
  have hag := run_isAgg hf.k w
  have hsz := run_sizeOf_of hf w
  cases hagg : (T t).k.agg with
  | true =>
    simp only [hagg] at hk
    obtain ⟨hlen, hk⟩ := hk
    have hld : (loadCells ⟨b, o + off, none⟩ (T t).size).run P w = .ok ((List.range (T t).size).map fun j => cs (off + j)).toArray w := by
      have := run_loadCells_list (P := P) (w := w) ⟨b, o + off, none⟩ ((List.range (T t).size).map fun j => cs (off + j)) (fun j v hj => by
        simp only [List.getElem?_map, Option.map_eq_some_iff] at hj
        obtain ⟨j', hj, rfl⟩ := hj
        obtain ⟨hlt, he⟩ := List.getElem?_eq_some_iff.1 hj
        have hj' : j < (T t).size := by simpa using hlt
        obtain rfl : j = j' := by simpa using he
        have := (hcell (off + j) (by omega)).1
        unfold Addr.add
        split
        · rename_i h0; subst h0; simpa using this
        · rw [show o + off + j = o + (off + j) by omega]; exact this)
      simpa using this
    refine ⟨_, .agg ((List.range (T t).size).map fun j => cs (off + j)).toArray, hk, ?_, ?_⟩
    · simp [Instr.loadAt, Instr.sureAddr, loadVar, hag, hagg, hsz, hld]
    · refine .ag (by simp; omega) (fun i h h' => ?_)
      simp at h h'
      have := (hcell (off + i) (by omega)).2
      simp only [List.getElem_take, List.getElem_drop, List.getElem_map, List.getElem_range]
      exact this
  | false =>
    simp only [hagg] at hk
    obtain ⟨hlen, hk⟩ := hk
    have hc := hcell off hlen
    refine ⟨_, cs off, hk, ?_, ?_⟩
    · simp [Instr.loadAt, Instr.sureAddr, loadVar, hag, hagg, run_load, hc.1]
    · have e : cells.getD off .junk = cells[off] := by simp [List.getD, hlen]
      rw [e]
      exact hc.2

end Go.Abs
