/- DERIVED by an AI agent. A call whose rows are taken over. No program in sight. -/
import Derived.Test.YtfjjopfeipggiaaA16
namespace Go.Abs
set_option linter.unusedSimpArgs false

theorem leafId_inj {d i j : Nat} (h : leafId d i = leafId d j) : i = j := by unfold leafId at h; omega

def updL {α : Type} (f : Nat → α) (d : Nat) : List α → Nat → Nat → α
  | [], _ => f
  | x :: xs, i => updF (updL f d xs (i + 1)) (leafId d i) x

theorem updL_other {α : Type} (f : Nat → α) (d k : Nat) : ∀ (l : List α) (i : Nat), (∀ j, j < l.length → k ≠ leafId d (i + j)) → updL f d l i k = f k := by
  intro l
  induction l with
  | nil => intro i _; rfl
  | cons x xs ih =>
    intro i h
    have h0 := h 0 (by simp)
    rw [updL, updF_other _ _ (by simpa using h0)]
    exact ih (i + 1) fun j hj => by have := h (j + 1) (by simpa using hj); rwa [show i + (j + 1) = i + 1 + j by omega] at this

theorem updL_at {α : Type} (f : Nat → α) (d : Nat) : ∀ (l : List α) (i j : Nat) (h : j < l.length), updL f d l i (leafId d (i + j)) = l[j] := by
  intro l
  induction l with
  | nil => intro i j h; simp at h
  | cons x xs ih =>
    intro i j h
    cases j with
    | zero => simp [updL, updF]
    | succ j =>
      rw [updL, updF_other _ _ (fun e => by have := leafId_inj e; omega)]
      have := ih (i + 1) j (by simpa using h)
      rw [show i + (j + 1) = i + 1 + j by omega]
      exact this

def rowsOf (rw : Nat → Row) (d : Nat) : List (TypeId × Nat × List PV) → Nat → List Row
  | [], _ => []
  | (e, sz, c) :: ls, i => ⟨(rw (leafId d i)).ver + 1, .sli e sz false c⟩ :: rowsOf rw d ls (i + 1)

theorem addRows_eq (rw : Nat → Row) (d : Nat) : ∀ (ls : List (TypeId × Nat × List PV)) (i : Nat), addRows rw d ls i = updL rw d (rowsOf rw d ls i) i := by
  intro ls
  induction ls with
  | nil => intro i; rfl
  | cons x xs ih => intro i; obtain ⟨e, sz, c⟩ := x; simp only [addRows, rowsOf, updL, ih]

theorem rowsOf_length (rw : Nat → Row) (d : Nat) : ∀ (ls : List (TypeId × Nat × List PV)) (i : Nat), (rowsOf rw d ls i).length = ls.length := by
  intro ls
  induction ls with
  | nil => intro i; rfl
  | cons x xs ih => intro i; obtain ⟨e, sz, c⟩ := x; simp [rowsOf, ih]

theorem rowsOf_get (rw : Nat → Row) (d : Nat) : ∀ (ls : List (TypeId × Nat × List PV)) (i j : Nat) (h : j < ls.length) (h' : j < (rowsOf rw d ls i).length),
    (rowsOf rw d ls i)[j] = ⟨(rw (leafId d (i + j))).ver + 1, .sli ls[j].1 ls[j].2.1 false ls[j].2.2⟩ := by
  intro ls
  induction ls with
  | nil => intro i j h; simp at h
  | cons x xs ih =>
    intro i j h h'
    obtain ⟨e, sz, c⟩ := x
    cases j with
    | zero => simp [rowsOf]
    | succ j =>
      have := ih (i + 1) j (by simpa using h) (by rw [rowsOf_length]; simpa using h)
      simp only [rowsOf, List.getElem_cons_succ]
      rw [this]
      rw [show i + (j + 1) = i + 1 + j by omega]

theorem LeafsAt.get {w : World} {E : Env} {a : List (TypeId × Nat × List PV)} {b : List (Value × Option Nat)} (h : LeafsAt w E a b) : ∀ i (p : i < a.length) (q : i < b.length), LeafAt w E a[i] b[i] := by
  induction h with
  | nil => intro i p; simp at p
  | cons h _ ih =>
    intro i p q
    cases i with
    | zero => exact h
    | succ i => exact ih i (by simpa using p) (by simpa using q)

theorem LeafAt.blk {w : World} {E : Env} {x : TypeId × Nat × List PV} {y : Value × Option Nat} (h : LeafAt w E x y) : ∀ b, y.2 = some b → E.B ≤ b ∧ b < w.heap.size := by
  cases h with
  | nil => intro b hb; cases hb
  | fr hB hh => intro b hb; simp at hb; subst hb; exact ⟨hB, get_lt hh⟩

theorem blk_inj {lv : List (Value × Option Nat)} (hn : (blk lv).Nodup) {i j b : Nat} (hi : i < lv.length) (hj : j < lv.length) (h1 : lv[i].2 = some b) (h2 : lv[j].2 = some b) : i = j := by
  induction lv generalizing i j with
  | nil => simp at hi
  | cons x xs ih =>
    have mem : ∀ k (hk : k < xs.length), xs[k].2 = some b → b ∈ blk xs := fun k hk he => by
      simp only [blk, List.mem_filterMap]; exact ⟨_, List.getElem_mem hk, he⟩
    have hn' : (blk xs).Nodup := by
      unfold blk at hn ⊢
      cases hx : x.2 with
      | none => rw [List.filterMap_cons_none hx] at hn; exact hn
      | some y => rw [List.filterMap_cons_some hx] at hn; exact hn.of_cons
    have out : x.2 = some b → b ∉ blk xs := fun hx => by
      unfold blk at hn ⊢
      rw [List.filterMap_cons_some hx] at hn
      exact (List.nodup_cons.1 hn).1
    cases i with
    | zero =>
      cases j with
      | zero => rfl
      | succ j => exact absurd (mem j (by simpa using hj) h2) (out h1)
    | succ i =>
      cases j with
      | zero => exact absurd (mem i (by simpa using hi) h1) (out h2)
      | succ j => rw [ih hn' (by simpa using hi) (by simpa using hj) h1 h2]

section
variable {P : Program} {T : Tab} {G : Ghost} {s : St} {E : Env} {a : Act} {w w' : World} {o : Oper}

/-- The caller's ghost behind the call. -/
def Env.adopt (E : Env) (d : Nat) (ls : List (TypeId × Nat × List PV)) (lv : List (Value × Option Nat)) : Env :=
  { R := updL E.R d (rowsOf E.R d ls 0) 0, rm := updL E.rm d (lv.map (·.2)) 0, rv := updL E.rv d (lv.map (·.1)) 0,
    L := mkL (updL E.R d (rowsOf E.R d ls 0) 0) (updL E.rm d (lv.map (·.2)) 0), B := E.B }

theorem adopt_turn (hw : WOk G E w) (hx : Ext w w') {d : Nat} {ls : List (TypeId × Nat × List PV)} {lv : List (Value × Option Nat)} (hls : LeafsAt w' (Env.out w.heap.size (blk lv)) ls lv) (hn : (blk lv).Nodup) :
    Turn G E (E.adopt d ls lv) w w' (fun k => ∃ j, j < ls.length ∧ k = leafId d j) ∧
      (∀ k, (∃ j, j < ls.length ∧ k = leafId d j) → RowOk w' (E.adopt d ls lv) G.C k) ∧ Agr (E.adopt d ls lv) (fun k => (E.R k).ver) d 0 lv := by
  have hlen := hls.length
  have atR : ∀ j (h : j < ls.length), (E.adopt d ls lv).R (leafId d j) = ⟨(E.R (leafId d j)).ver + 1, .sli ls[j].1 ls[j].2.1 false ls[j].2.2⟩ := fun j h => by
    have h' : j < (rowsOf E.R d ls 0).length := by rw [rowsOf_length]; exact h
    have := updL_at E.R d (rowsOf E.R d ls 0) 0 j h'
    rw [Nat.zero_add] at this
    show updL E.R d (rowsOf E.R d ls 0) 0 (leafId d j) = _
    rw [this, rowsOf_get E.R d ls 0 j h h', Nat.zero_add]
  have atM : ∀ j (h : j < ls.length) (h' : j < lv.length), (E.adopt d ls lv).rm (leafId d j) = lv[j].2 := fun j h h' => by
    have := updL_at E.rm d (lv.map (·.2)) 0 j (by simpa using h')
    rw [Nat.zero_add] at this
    show updL E.rm d (lv.map (·.2)) 0 (leafId d j) = _
    rw [this]; simp
  have atV : ∀ j (h : j < ls.length) (h' : j < lv.length), (E.adopt d ls lv).rv (leafId d j) = lv[j].1 := fun j h h' => by
    have := updL_at E.rv d (lv.map (·.1)) 0 j (by simpa using h')
    rw [Nat.zero_add] at this
    show updL E.rv d (lv.map (·.1)) 0 (leafId d j) = _
    rw [this]; simp
  have off : ∀ k, ¬ (∃ j, j < ls.length ∧ k = leafId d j) → (E.adopt d ls lv).R k = E.R k ∧ (E.adopt d ls lv).rm k = E.rm k ∧ (E.adopt d ls lv).rv k = E.rv k := fun k hk => by
    refine ⟨updL_other _ d k _ 0 fun j hj e => hk ⟨j, by rwa [rowsOf_length] at hj, by simpa using e⟩, updL_other _ d k _ 0 fun j hj e => hk ⟨j, by simp at hj; omega, by simpa using e⟩, updL_other _ d k _ 0 fun j hj e => hk ⟨j, by simp at hj; omega, by simpa using e⟩⟩
  have hturn : Turn G E (E.adopt d ls lv) w w' (fun k => ∃ j, j < ls.length ∧ k = leafId d j) := by
    refine ⟨rfl, rfl, off, fun b hb _ => hx.block b hb, ?_, ?_, ?_, ?_, ?_, ?_, hx.size, hx.os, hx.tape, hx.output⟩
    · rintro k b ⟨j, hj, rfl⟩ hb _
      rw [atM j hj (by omega)] at hb
      exact .inl ((hls.get j hj (by omega)).blk b hb).1
    · rintro k ⟨j, hj, rfl⟩; rw [atR j hj]; exact Nat.le_succ _
    · rintro k ⟨j, hj, rfl⟩ h; rw [atR j hj] at h; simp at h
    · rintro k ⟨j, hj, rfl⟩ h; rw [atR j hj] at h; simp at h
    · rintro k ⟨j, hj, rfl⟩ _; rw [atR j hj]; exact Nat.succ_pos _
    · rintro k k' b ⟨j, hj, rfl⟩ ⟨j', hj', rfl⟩ _ _ h1 h2
      rw [atM j hj (by omega)] at h1
      rw [atM j' hj' (by omega)] at h2
      rw [blk_inj hn (by omega) (by omega) h1 h2]
  have hl := hturn.lasts hw
  refine ⟨hturn, ?_, fun j hj => ?_⟩
  · rintro k ⟨j, hj, rfl⟩
    have hleaf := hls.get j hj (by omega)
    unfold RowOk
    rw [atR j hj, atM j hj (by omega), atV j hj (by omega)]
    have hbare : Lasts w' w' (Env.out w.heap.size (blk lv)).bare (E.adopt d ls lv).bare := by
      refine ⟨fun b hb hL => ⟨rfl, fun hL' => ?_⟩, fun _ => Nat.le_refl _, fun _ _ h => absurd h (by simp [Env.bare, RK.slice]), fun _ _ h => absurd h (by simp [Env.bare, RK.nd]), Nat.le_refl _⟩
      obtain ⟨k, hk, hlv⟩ := hL'
      have hnot : ¬ (b < w.heap.size ∨ b ∈ blk lv) := hL
      by_cases hD : ∃ j, j < ls.length ∧ k = leafId d j
      · obtain ⟨j', hj', rfl⟩ := hD
        have hk' : (E.adopt d ls lv).rm (leafId d j') = some b := hk
        rw [atM j' hj' (by omega)] at hk'
        refine hnot (.inr ?_)
        simp only [blk, List.mem_filterMap]
        exact ⟨_, List.getElem_mem (by omega), hk'⟩
      · obtain ⟨e1, e2, _⟩ := off k hD
        have hk' : (E.adopt d ls lv).rm k = some b := hk
        have hlv' : ((E.adopt d ls lv).R k).kind.live = true := hlv
        rw [e2] at hk'; rw [e1] at hlv'
        exact hnot (.inl (hw.block hk' (RK.nd_of_live hlv')).1)
    generalize hx1 : ls[j] = lx at hleaf
    generalize hy1 : lv[j] = ly at hleaf
    cases hleaf with
    | nil => exact .inl ⟨rfl, rfl, rfl⟩
    | @fr e sz b n cap cells vs rest hB hh hnn hc hm hll hr =>
      refine .inr ⟨b, n, cap, vs, rest, rfl, .inl ?_, rfl, hh, hnn, hc, hm, hll, hr.mono hbare ?_⟩
      · exact Nat.le_trans hw.kept.size hB
      · show E.B ≤ w.heap.size
        rw [hw.base]; exact hw.kept.size
  · rw [Nat.zero_add]
    have hj' : j < ls.length := by omega
    rw [atR j hj', atV j hj' hj]
    exact ⟨rfl, rfl⟩

theorem call_sound {c : Call} {f : Operand} {d : Nat} {K : St → Prop} (ho : o.op = .call c) (hc : c.callee = .value f) (hdst : o.dst = some d) (hd : d < G.n)
    (hk : callK P s.rw s.ev f c.args fun rv => K (adoptSt s d rv)) : ∃ s', K s' ∧ Effects P G s o s' := by
  obtain ⟨rv, hk, h⟩ := call_wp (G := G) ho hc hk
  refine ⟨_, hk, fun a w hs K' Q hK => ?_⟩
  obtain ⟨E, hs⟩ := hs
  refine h E a w hs.rw hs.wok (fun x _ => eval_rep hs.slots x) K' Q fun v w' lv hx hout hn => ?_
  obtain ⟨hturn, hrows, hag⟩ := adopt_turn (d := d) hs.wok hx hout.leafs hn
  have hsim := hturn.sim hs hrows
  have hE : (E.adopt d (leaves rv) lv).R = addRows s.rw d (leaves rv) 0 := by
    rw [addRows_eq, ← hs.rw]; rfl
  rw [hdst]
  refine hK _ _ ⟨E.adopt d (leaves rv) lv, ?_⟩
  have hbare : Lasts w' w' (Env.out w.heap.size (blk lv)).bare (E.adopt d (leaves rv) lv).bare := by
    refine ⟨fun b hb hL => ⟨rfl, fun hL' => ?_⟩, fun _ => Nat.le_refl _, fun _ _ h => absurd h (by simp [Env.bare, RK.slice]), fun _ _ h => absurd h (by simp [Env.bare, RK.nd]), Nat.le_refl _⟩
    have hnot : ¬ (b < w.heap.size ∨ b ∈ blk lv) := hL
    obtain ⟨k, hk, hlv⟩ := hL'
    have hwok' := hturn.wok hs.wok hrows
    by_cases hD : ∃ j, j < (leaves rv).length ∧ k = leafId d j
    · obtain ⟨j', hj', rfl⟩ := hD
      have hk' : (E.adopt d (leaves rv) lv).rm (leafId d j') = some b := hk
      have hjl : j' < lv.length := by rw [hout.leafs.length]; exact hj'
      have := updL_at E.rm d (lv.map (·.2)) 0 j' (by simpa using hjl)
      rw [Nat.zero_add] at this
      have e : (E.adopt d (leaves rv) lv).rm (leafId d j') = lv[j'].2 := by
        show updL E.rm d (lv.map (·.2)) 0 (leafId d j') = _
        rw [this]; simp
      rw [e] at hk'
      refine hnot (.inr ?_)
      simp only [blk, List.mem_filterMap]
      exact ⟨_, List.getElem_mem hjl, hk'⟩
    · obtain ⟨e1, e2, _⟩ := hturn.keep k hD
      have hk' : (E.adopt d (leaves rv) lv).rm k = some b := hk
      have hlv' : ((E.adopt d (leaves rv) lv).R k).kind.live = true := hlv
      rw [e2] at hk'; rw [e1] at hlv'
      exact hnot (.inl (hs.wok.block hk' (RK.nd_of_live hlv')).1)
  have hrep : Rep w' (E.adopt d (leaves rv) lv) 0 (adopt2 (fun k => (s.rw k).ver) d rv 0) v := by
    rw [hs.rw] at hag
    exact adopt2_rep hbare (by show E.B ≤ w.heap.size; rw [hs.wok.base]; exact hs.wok.kept.size) rv v lv 0 hout hag
  have := hsim.put (d := some d) (by simp [hd]) hrep
  rw [hE] at this
  exact this

end
end Go.Abs
