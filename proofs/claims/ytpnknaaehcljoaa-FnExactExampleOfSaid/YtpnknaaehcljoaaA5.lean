/- DERIVED by an AI agent. -/
import Derived.Test.YtpnknaaehcljoaaA4
/- DERIVED by an AI agent. A call whose rows are taken over. No program in sight. -/
namespace Go.Abs
set_option linter.unusedSimpArgs false

theorem leafId_inj {d i j : Nat} (h : leafId d i = leafId d j) : i = j := by unfold leafId at h; omega

def updL {α : Type} (f : Nat → α) (d : Nat) : List α → Nat → Nat → α
  | [], _ => f
  | x :: xs, i => updF (updL f d xs (i + 1)) (leafId d i) x

theorem updL_other [Held] {α : Type} (f : Nat → α) (d k : Nat) : ∀ (l : List α) (i : Nat), (∀ j, j < l.length → k ≠ leafId d (i + j)) → updL f d l i k = f k := by
  intro l
  induction l with
  | nil => intro i _; rfl
  | cons x xs ih =>
    intro i h
    have h0 := h 0 (by simp)
    rw [updL, updF_other _ _ (by simpa using h0)]
    exact ih (i + 1) fun j hj => by have := h (j + 1) (by simpa using hj); rwa [show i + (j + 1) = i + 1 + j by omega] at this

theorem updL_at [Held] {α : Type} (f : Nat → α) (d : Nat) : ∀ (l : List α) (i j : Nat) (h : j < l.length), updL f d l i (leafId d (i + j)) = l[j] := by
  intro l
  induction l with
  | nil => intro i j h; simp at h
  | cons x xs ih =>
    intro i j h
    cases j with
    | zero => simp [updL, updF]
    | succ j =>
      rw [updL, updF_other _ _ (fun e => by have := leafId_inj e; omega)]
      have := ih (i + 1) j (by simpa using h)
      rw [show i + (j + 1) = i + 1 + j by omega]
      exact this

def rowsOf (rw : Nat → Row) (d : Nat) : List (TypeId × Option Nat × List PV) → Nat → List Row
  | [], _ => []
  | (e, sz, c) :: ls, i => ⟨(rw (leafId d i)).ver + 1, leafKind rw d i e sz c⟩ :: rowsOf rw d ls (i + 1)

theorem addRows_eq (rw : Nat → Row) (d : Nat) : ∀ (ls : List (TypeId × Option Nat × List PV)) (i : Nat), addRows rw d ls i = updL rw d (rowsOf rw d ls i) i := by
  intro ls
  induction ls with
  | nil => intro i; rfl
  | cons x xs ih => intro i; obtain ⟨e, sz, c⟩ := x; simp only [addRows, rowsOf, updL, ih]

theorem rowsOf_length (rw : Nat → Row) (d : Nat) : ∀ (ls : List (TypeId × Option Nat × List PV)) (i : Nat), (rowsOf rw d ls i).length = ls.length := by
  intro ls
  induction ls with
  | nil => intro i; rfl
  | cons x xs ih => intro i; obtain ⟨e, sz, c⟩ := x; simp [rowsOf, ih]

theorem rowsOf_get [Held] (rw : Nat → Row) (d : Nat) : ∀ (ls : List (TypeId × Option Nat × List PV)) (i j : Nat) (h : j < ls.length) (h' : j < (rowsOf rw d ls i).length),
    (rowsOf rw d ls i)[j] = ⟨(rw (leafId d (i + j))).ver + 1, leafKind rw d (i + j) ls[j].1 ls[j].2.1 ls[j].2.2⟩ := by
  intro ls
  induction ls with
  | nil => intro i j h; simp at h
  | cons x xs ih =>
    intro i j h h'
    obtain ⟨e, sz, c⟩ := x
    cases j with
    | zero => simp [rowsOf]
    | succ j =>
      have := ih (i + 1) j (by simpa using h) (by rw [rowsOf_length]; simpa using h)
      simp only [rowsOf, List.getElem_cons_succ]
      rw [this]
      rw [show i + (j + 1) = i + 1 + j by omega]

theorem LeafsAt.get {w : World} {E : Env} {a : List (TypeId × Option Nat × List PV)} {b : List (Value × Option Nat)} (h : LeafsAt w E a b) : ∀ i (p : i < a.length) (q : i < b.length), LeafAt w E a[i] b[i] := by
  induction h with
  | nil => intro i p; simp at p
  | cons h _ ih =>
    intro i p q
    cases i with
    | zero => exact h
    | succ i => exact ih i (by simpa using p) (by simpa using q)

theorem LeafAt.blk [Held] {w : World} {E : Env} {x : TypeId × Option Nat × List PV} {y : Value × Option Nat} (h : LeafAt w E x y) : ∀ b, y.2 = some b → E.B ≤ b ∧ b < w.heap.size := by
  cases h with
  | nil => intro b hb; cases hb
  | tbn => intro b hb; cases hb
  | tb hB hh => intro b hb; simp at hb; subst hb; exact ⟨hB, get_lt hh⟩
  | fr hB hh => intro b hb; simp at hb; subst hb; exact ⟨hB, get_lt hh⟩

theorem blk_inj {lv : List (Value × Option Nat)} (hn : (blk lv).Nodup) {i j b : Nat} (hi : i < lv.length) (hj : j < lv.length) (h1 : lv[i].2 = some b) (h2 : lv[j].2 = some b) : i = j := by
  induction lv generalizing i j with
  | nil => simp at hi
  | cons x xs ih =>
    have mem : ∀ k (hk : k < xs.length), xs[k].2 = some b → b ∈ blk xs := fun k hk he => by
      simp only [blk, List.mem_filterMap]; exact ⟨_, List.getElem_mem hk, he⟩
    have hn' : (blk xs).Nodup := by
      unfold blk at hn ⊢
      cases hx : x.2 with
      | none => rw [List.filterMap_cons_none hx] at hn; exact hn
      | some y => rw [List.filterMap_cons_some hx] at hn; exact hn.of_cons
    have out : x.2 = some b → b ∉ blk xs := fun hx => by
      unfold blk at hn ⊢
      rw [List.filterMap_cons_some hx] at hn
      exact (List.nodup_cons.1 hn).1
    cases i with
    | zero =>
      cases j with
      | zero => rfl
      | succ j => exact absurd (mem j (by simpa using hj) h2) (out h1)
    | succ i =>
      cases j with
      | zero => exact absurd (mem i (by simpa using hi) h1) (out h2)
      | succ j => rw [ih hn' (by simpa using hi) (by simpa using hj) h1 h2]

section
variable {P : Program} {T : Tab} {G : Ghost} {s : St} {E : Env} {a : Act} {w w' : World} {o : Oper}

/-- The caller's ghost behind the call. -/
def Env.adopt (E : Env) (d : Nat) (ls : List (TypeId × Option Nat × List PV)) (lv : List (Value × Option Nat)) : Env :=
  { R := updL E.R d (rowsOf E.R d ls 0) 0, rm := updL E.rm d (lv.map (·.2)) 0, rv := updL E.rv d (lv.map (·.1)) 0,
    L := mkL E.X (updL E.R d (rowsOf E.R d ls 0) 0) (updL E.rm d (lv.map (·.2)) 0), B := E.B, X := E.X }

theorem adopt_turn [Held] (hw : WOk G E w) (hx : Ext w w') {d : Nat} {ls : List (TypeId × Option Nat × List PV)} {lv : List (Value × Option Nat)} (hls : LeafsAt w' (Env.out w.heap.size (blk lv)) ls lv) (hlk : Links w' ls lv) (hn : (blk lv).Nodup) :
    Turn G E (E.adopt d ls lv) w w' (fun k => ∃ j, j < ls.length ∧ k = leafId d j) ∧
      (∀ k, (∃ j, j < ls.length ∧ k = leafId d j) → RowOk w' (E.adopt d ls lv) G.C k) ∧ Agr (E.adopt d ls lv) (fun k => (E.R k).ver) d 0 lv := by
  have hlen := hls.length
  have atR : ∀ j (h : j < ls.length), (E.adopt d ls lv).R (leafId d j) = ⟨(E.R (leafId d j)).ver + 1, leafKind E.R d j ls[j].1 ls[j].2.1 ls[j].2.2⟩ := fun j h => by
    have h' : j < (rowsOf E.R d ls 0).length := by rw [rowsOf_length]; exact h
    have := updL_at E.R d (rowsOf E.R d ls 0) 0 j h'
    rw [Nat.zero_add] at this
    show updL E.R d (rowsOf E.R d ls 0) 0 (leafId d j) = _
    rw [this, rowsOf_get E.R d ls 0 j h h', Nat.zero_add]
  have atM : ∀ j (h : j < ls.length) (h' : j < lv.length), (E.adopt d ls lv).rm (leafId d j) = lv[j].2 := fun j h h' => by
    have := updL_at E.rm d (lv.map (·.2)) 0 j (by simpa using h')
    rw [Nat.zero_add] at this
    show updL E.rm d (lv.map (·.2)) 0 (leafId d j) = _
    rw [this]; simp
  have atV : ∀ j (h : j < ls.length) (h' : j < lv.length), (E.adopt d ls lv).rv (leafId d j) = lv[j].1 := fun j h h' => by
    have := updL_at E.rv d (lv.map (·.1)) 0 j (by simpa using h')
    rw [Nat.zero_add] at this
    show updL E.rv d (lv.map (·.1)) 0 (leafId d j) = _
    rw [this]; simp
  have off : ∀ k, ¬ (∃ j, j < ls.length ∧ k = leafId d j) → (E.adopt d ls lv).R k = E.R k ∧ (E.adopt d ls lv).rm k = E.rm k ∧ (E.adopt d ls lv).rv k = E.rv k := fun k hk => by
    refine ⟨updL_other _ d k _ 0 fun j hj e => hk ⟨j, by rwa [rowsOf_length] at hj, by simpa using e⟩, updL_other _ d k _ 0 fun j hj e => hk ⟨j, by simp at hj; omega, by simpa using e⟩, updL_other _ d k _ 0 fun j hj e => hk ⟨j, by simp at hj; omega, by simpa using e⟩⟩
  have hturn : Turn G E (E.adopt d ls lv) w w' (fun k => ∃ j, j < ls.length ∧ k = leafId d j) := by
    refine ⟨rfl, rfl, rfl, off, fun b hb _ => hx.block b hb, ?_, ?_, ?_, ?_, ?_, ?_, hx.size, hx.os, hx.tape, hx.output⟩
    · rintro k b ⟨j, hj, rfl⟩ hb _
      rw [atM j hj (by omega)] at hb
      exact .inl ((hls.get j hj (by omega)).blk b hb).1
    · rintro k ⟨j, hj, rfl⟩; rw [atR j hj]; exact Nat.le_succ _
    · rintro k ⟨j, hj, rfl⟩ h; rw [atR j hj] at h; simp at h
    · rintro k ⟨j, hj, rfl⟩ h; rw [atR j hj] at h; simp at h
    · rintro k ⟨j, hj, rfl⟩ _; rw [atR j hj]; exact Nat.succ_pos _
    · rintro k k' b ⟨j, hj, rfl⟩ ⟨j', hj', rfl⟩ _ _ h1 h2
      rw [atM j hj (by omega)] at h1
      rw [atM j' hj' (by omega)] at h2
      rw [blk_inj hn (by omega) (by omega) h1 h2]
  have hl := hturn.lasts hw
  refine ⟨hturn, ?_, fun j hj => ?_⟩
  · rintro k ⟨j, hj, rfl⟩
    have hleaf := hls.get j hj (by omega)
    unfold RowOk
    rw [atR j hj, atM j hj (by omega), atV j hj (by omega)]
    have hbare : Lasts w' w' (Env.out w.heap.size (blk lv)).bare (E.adopt d ls lv).bare := by
      refine ⟨fun b hb hL => ⟨rfl, fun hL' => ?_⟩, fun _ => Nat.le_refl _, fun _ _ h => absurd h (by simp [Env.bare, RK.slice]), fun _ _ h => absurd h (by simp [Env.bare, RK.nd]), Nat.le_refl _⟩
      rcases hL' with ⟨k, hk, hlv⟩ | hX
      rotate_left
      · exact hL (.inl (by have := hw.fx.low b (by rw [← hw.xs]; exact hX); have := hw.kept.size; omega))
      have hnot : ¬ (b < w.heap.size ∨ b ∈ blk lv) := hL
      by_cases hD : ∃ j, j < ls.length ∧ k = leafId d j
      · obtain ⟨j', hj', rfl⟩ := hD
        have hk' : (E.adopt d ls lv).rm (leafId d j') = some b := hk
        rw [atM j' hj' (by omega)] at hk'
        refine hnot (.inr ?_)
        simp only [blk, List.mem_filterMap]
        exact ⟨_, List.getElem_mem (by omega), hk'⟩
      · obtain ⟨e1, e2, _⟩ := off k hD
        have hk' : (E.adopt d ls lv).rm k = some b := hk
        have hlv' : ((E.adopt d ls lv).R k).kind.live = true := hlv
        rw [e2] at hk'; rw [e1] at hlv'
        exact hnot (.inl (hw.block hk' (RK.nd_of_live hlv')).1)
    generalize hx1 : ls[j] = lx at hleaf
    generalize hy1 : lv[j] = ly at hleaf
    cases hleaf with
    | nil => exact .inl ⟨rfl, rfl, rfl⟩
    | tbn => exact .inl ⟨rfl, rfl, by simp [tabCells]⟩
    | @tb e b n cap cells vs rest hB hh hnn hc hm hll hr =>
      have hlink := hlk j e cells b n cap (by rw [List.getElem?_eq_getElem hj, hx1]) (by rw [List.getElem?_eq_getElem (by omega), hy1]) vs rest hh hnn
      refine .inr ⟨b, n, cap, vs, rest, rfl, .inl (Nat.le_trans hw.kept.size hB), rfl, hh, hnn, hc, hm, hll, by simp [tabCells, hr, hnn], fun i a b' => ?_⟩
      have hi : i < cells.length := by simpa [tabCells] using a
      have h0 := hlink i b'
      have hlt : j + 1 + i < lv.length := by
        cases hq : lv[j + 1 + i]? with
        | none => rw [hq] at h0; cases h0
        | some x => exact (List.getElem?_eq_some_iff.1 hq).1
      rw [List.getElem?_eq_getElem hlt] at h0
      have h0 : lv[j + 1 + i].1 = vs[i] := by simpa using h0
      show Rep w' (E.adopt d ls lv) 0 (tabCells E.R d j cells.length)[i] vs[i]
      simp only [tabCells, List.getElem_map, List.getElem_range]
      refine .own ?_ fun _ _ => ?_
      · rw [atR (j + 1 + i) (by omega)]; exact Nat.le_refl _
      · rw [atV (j + 1 + i) (by omega) hlt, h0]
    | @fr e sz b n cap cells vs rest hB hh hnn hc hm hll hr =>
      refine .inr ⟨b, n, cap, vs, rest, rfl, .inl ?_, rfl, hh, hnn, hc, hm, hll, hr.mono hbare ?_⟩
      · exact Nat.le_trans hw.kept.size hB
      · show E.B ≤ w.heap.size
        rw [hw.base]; exact hw.kept.size
  · rw [Nat.zero_add]
    have hj' : j < ls.length := by omega
    rw [atR j hj', atV j hj' hj]
    exact ⟨rfl, rfl⟩

theorem call_sound [Held] {c : Call} {f : Operand} {d : Nat} {K : St → Prop} (ho : o.op = .call c) (hc : c.callee = .value f) (hdst : o.dst = some d) (hd : d < G.n)
    (hk : callK P s.rw s.ev f c.args fun rv => K (adoptSt s d rv)) : ∃ s', K s' ∧ Effects P G s o s' := by
  obtain ⟨rv, hk, h⟩ := call_wp (G := G) ho hc hk
  refine ⟨_, hk, fun a w hs K' Q hK => ?_⟩
  obtain ⟨E, hs⟩ := hs
  refine h E a w hs.rw hs.wok (fun x _ => eval_rep hs.slots x) K' Q fun v w' lv hx hout hn => ?_
  obtain ⟨hturn, hrows, hag⟩ := adopt_turn (d := d) hs.wok hx hout.leafs hout.links hn
  have hsim := hturn.sim hs hrows
  have hE : (E.adopt d (leaves rv) lv).R = addRows s.rw d (leaves rv) 0 := by
    rw [addRows_eq, ← hs.rw]; rfl
  rw [hdst]
  refine hK _ _ ⟨E.adopt d (leaves rv) lv, ?_⟩
  have hbare : Lasts w' w' (Env.out w.heap.size (blk lv)).bare (E.adopt d (leaves rv) lv).bare := by
    refine ⟨fun b hb hL => ⟨rfl, fun hL' => ?_⟩, fun _ => Nat.le_refl _, fun _ _ h => absurd h (by simp [Env.bare, RK.slice]), fun _ _ h => absurd h (by simp [Env.bare, RK.nd]), Nat.le_refl _⟩
    rcases hL' with ⟨k, hk, hlv⟩ | hX
    rotate_left
    · exact hL (.inl (by have := hs.wok.fx.low b (by rw [← hs.wok.xs]; exact hX); have := hs.wok.kept.size; omega))
    have hnot : ¬ (b < w.heap.size ∨ b ∈ blk lv) := hL
    have hwok' := hturn.wok hs.wok hrows
    by_cases hD : ∃ j, j < (leaves rv).length ∧ k = leafId d j
    · obtain ⟨j', hj', rfl⟩ := hD
      have hk' : (E.adopt d (leaves rv) lv).rm (leafId d j') = some b := hk
      have hjl : j' < lv.length := by rw [hout.leafs.length]; exact hj'
      have := updL_at E.rm d (lv.map (·.2)) 0 j' (by simpa using hjl)
      rw [Nat.zero_add] at this
      have e : (E.adopt d (leaves rv) lv).rm (leafId d j') = lv[j'].2 := by
        show updL E.rm d (lv.map (·.2)) 0 (leafId d j') = _
        rw [this]; simp
      rw [e] at hk'
      refine hnot (.inr ?_)
      simp only [blk, List.mem_filterMap]
      exact ⟨_, List.getElem_mem hjl, hk'⟩
    · obtain ⟨e1, e2, _⟩ := hturn.keep k hD
      have hk' : (E.adopt d (leaves rv) lv).rm k = some b := hk
      have hlv' : ((E.adopt d (leaves rv) lv).R k).kind.live = true := hlv
      rw [e2] at hk'; rw [e1] at hlv'
      exact hnot (.inl (hs.wok.block hk' (RK.nd_of_live hlv')).1)
  have hrep : Rep w' (E.adopt d (leaves rv) lv) 0 (adopt2 (fun k => (s.rw k).ver) d rv 0) v := by
    rw [hs.rw] at hag
    exact adopt2_rep hbare (by show E.B ≤ w.heap.size; rw [hs.wok.base]; exact hs.wok.kept.size) rv v lv 0 hout hag
  have := hsim.put (d := some d) (by simp [hd]) hrep
  rw [hE] at this
  exact this

end
end Go.Abs

/- DERIVED by an AI agent. New variables, slices made and written out; all operations together. No program in sight. -/
namespace Go.Abs
set_option linter.unusedSimpArgs false

section
variable {P : Program} {T : Tab} {G : Ghost} {s : St} {E : Env} {a : Act} {w w' : World} {o : Oper}

theorem box_sound [Held] {d : Nat} {t : TypeId} {x : Operand} {K : St → Prop} (ho : o.op = .box t x) (hdst : o.dst = some d) (hd : d < G.n)
    (hk : cellsK s.rw (s.ev x) fun c => K (newSt s d (.box t c) fun v => .ref d v 0)) : ∃ s', K s' ∧ Effects P G s o s' := by
  have hdet : ∃ new, cellsK s.rw (s.ev x) (· = new) ∧ K (newSt s d (.box t new) fun v => .ref d v 0) := by
    unfold cellsK at hk ⊢
    split at hk <;> first
      | exact ⟨_, rfl, hk⟩
      | exact ⟨_, ⟨hk.1, rfl⟩, hk.2⟩
      | exact ⟨_, ⟨hk.1, hk.2.1, rfl⟩, hk.2.2⟩
      | exact hk.elim
  obtain ⟨new, hc, hk⟩ := hdet
  refine ⟨_, hk, fun a w hs K' Q hK => ?_⟩
  obtain ⟨E, hs⟩ := hs
  obtain ⟨c', rfl, hrep, _⟩ := cellsK_sound hc hs.rw hs.wok (eval_rep hs.slots x)
  refine eff_box hs hdst hd hrep ?_ hK
  simp [execOp, ho, Instr.box, newVar, newRow]

theorem alloc_sound [Held] (hT : T.Ok P) {d : Nat} {t : TypeId} {K : St → Prop} (ho : o.op = .alloc t) (hdst : o.dst = some d) (hd : d < G.n)
    (hk : 0 < (T t).size ∧ K (newSt s d (.box t ((T t).zero.map PV.v)) fun v => .ref d v 0)) : ∃ s', K s' ∧ Effects P G s o s' := by
  obtain ⟨hs, hk⟩ := hk
  obtain ⟨i, z, h1, h2, h3, h4, h5⟩ := (hT t hs).info
  refine ⟨_, hk, fun a w hs K' Q hK => ?_⟩
  obtain ⟨E, hs⟩ := hs
  refine eff_box (vs := (T t).zero) hs hdst hd ⟨by simp, fun i p q => by simp; exact .v _⟩ ?_ hK
  have e : (T t).zero.toArray = z.cells := by rw [← h5]
  simp [execOp, ho, Instr.alloc, zeroValue, typeInfo, h1, h4, newVar, newRow, e]

theorem nil_sound [Held] {d : Nat} {c : Value} {kd : RK} (hkd : kd = .nil ∨ ∃ e sz, kd = .sli e sz false []) {K : St → Prop} (ho : o.op = .assign (.const c)) (hdst : o.dst = some d) (hd : d < G.n) (hn : isNil c = true)
    (hk : K (newSt s d kd fun v => .own d v)) : ∃ s', K s' ∧ Effects P G s o s' := by
  refine ⟨_, hk, fun a w hs K' Q hK => ?_⟩
  obtain ⟨E, hs⟩ := hs
  refine eff_nil hkd hs hdst hd (Ext.refl w) ?_ hK
  simp [execOp, ho, Act.eval, isNil_eq hn]

theorem make_sound [Held] (hT : T.Ok P) {d : Nat} {t e : TypeId} {l c : Operand} {kl kc : IntKind} {nl nc : Int} {z : Value} {K : St → Prop} (ho : o.op = .makeSlice t l c) (hdst : o.dst = some d) (hd : d < G.n)
    (ht : 0 < (T t).size) (hte : (T t).k = .sli e) (hl : s.ev l = .v (.int kl nl)) (hc : s.ev c = .v (.int kc nc)) (he : (T e).size = 1) (hz : (T e).zero = [z]) (h0 : 0 ≤ nl) (h1 : nl ≤ nc) (hb : ((T e).bytes : Int) * nc ≤ 281474976710656)
    (h63 : nc ≤ 9223372036854775807) (hk : K (newSt s d (.sli e 1 false (List.replicate nl.toNat (.v z))) fun v => .own d v)) : ∃ s', K s' ∧ Effects P G s o s' := by
  have hu : P.underlying t = some (.slice e) := by have := (hT t ht).k; rw [hte] at this; exact this
  obtain ⟨i, zz, hi, hsz, hby, hz', hzl⟩ := (hT e (by omega)).info
  refine ⟨_, hk, fun a w hs K' Q hK => ?_⟩
  obtain ⟨E, hs⟩ := hs
  have el := eval_rep hs.slots l
  have ec := eval_rep hs.slots c
  rw [hl] at el; rw [hc] at ec
  have hrun := run_make (P := P) w t e i zz hu hi hz' kl kc nl nc h0 h1 (by rw [hby]; exact hb) h63
  have hzc : zz.cells = #[z] := by apply Array.toList_inj.1; rw [hzl, hz]
  have hmade : madeCells zz.cells (nc.toNat * i.size) = (List.replicate nl.toNat z ++ List.replicate (nc.toNat - nl.toNat) z).toArray := by
    rw [List.replicate_append_replicate, hsz, he, Nat.mul_one, show nl.toNat + (nc.toNat - nl.toNat) = nc.toNat by omega]
    unfold madeCells
    apply Array.ext (by simp)
    intro j h1 h2
    simp [hzc, Nat.mod_one]
  rw [hmade] at hrun
  refine eff_row (vs := List.replicate nl.toNat z) (rest := List.replicate (nc.toNat - nl.toNat) z) (n := nl.toNat) (cap := nc.toNat) (sz := 1) (e := e) hs hdst hd ⟨by simp, fun j p q => by simp; exact .v _⟩ (by simp) (by omega) (by simp [maxLen]; omega) (by simp; omega) (Ext.alloc _ _) (heap_alloc_new w _) ?_ hK
  simp [execOp, ho, el.v_eq, ec.v_eq, hrun]

/-! ### a slice written out -/

theorem foldl_set : ∀ (l : List Value) (n off : Nat) (arr : Array Value), off + n + l.length ≤ arr.size →
    ((l.zipIdx n).foldl (fun cs (x : Value × Nat) => cs.setIfInBounds (off + x.2) x.1) arr).toList = arr.toList.take (off + n) ++ l ++ arr.toList.drop (off + n + l.length) := by
  intro l
  induction l with
  | nil => intro n off arr h; simp
  | cons x xs ih =>
    intro n off arr h
    simp only [List.zipIdx_cons, List.foldl_cons]
    rw [ih (n + 1) off _ (by simp at h ⊢; omega)]
    have e := list_seg_step arr.toList (off + n) x xs (by simp at h ⊢; omega)
    simpa [Array.toList_setIfInBounds, Nat.add_assoc] using e

def idxOk : Nat → List (Nat × Operand) → Bool
  | _, [] => true
  | k, (i, _) :: r => (i == k) && idxOk (k + 1) r

theorem fill_at [Held] (sz : Nat) : ∀ (vs : List Value) (ps : List (Nat × Value)) (k : Nat) (cells : Array Value), ps.map (·.2) = vs → (∀ j (h : j < ps.length), ps[j].1 = k + j) → (∀ v ∈ vs, v.cells.size = sz) → (k + vs.length) * sz ≤ cells.size →
    ∃ out, Instr.fill (fun i => some (i * sz, sz)) cells ps = some out ∧ out.toList = cells.toList.take (k * sz) ++ (vs.map (·.cells.toList)).flatten ++ cells.toList.drop ((k + vs.length) * sz) := by
  intro vs
  induction vs with
  | nil =>
    intro ps k cells h1 _ _ _
    have : ps = [] := by simpa using h1
    subst this
    exact ⟨cells, rfl, by simp⟩
  | cons v vs ih =>
    intro ps k cells h1 h2 h3 h4
    cases ps with
    | nil => simp at h1
    | cons p ps =>
      obtain ⟨i, u⟩ := p
      simp only [List.map_cons, List.cons.injEq] at h1
      obtain ⟨rfl, h1⟩ := h1
      have hi : i = k := (h2 0 (by simp) : i = k + 0)
      subst hi
      have hv := h3 u (by simp)
      have hle : (i + (vs.length + 1)) * sz ≤ cells.size := h4
      have hmul : (i + (vs.length + 1)) * sz = i * sz + sz + vs.length * sz := by rw [Nat.add_mul, Nat.add_mul]; omega
      have hset := foldl_set u.cells.toList 0 (i * sz) cells (by simp [hv]; omega)
      have hfold : (u.cells.zipIdx.foldl (fun cs (x : Value × Nat) => cs.setIfInBounds (i * sz + x.2) x.1) cells) = (u.cells.toList.zipIdx.foldl (fun cs (x : Value × Nat) => cs.setIfInBounds (i * sz + x.2) x.1) cells) := by
        rw [← Array.foldl_toList, Array.toList_zipIdx]
      obtain ⟨out, hf, ho⟩ := ih ps (i + 1) (u.cells.toList.zipIdx.foldl (fun cs (x : Value × Nat) => cs.setIfInBounds (i * sz + x.2) x.1) cells) h1
        (fun j h => by have h3 : ps[j].1 = i + (j + 1) := h2 (j + 1) (by simpa using h); omega) (fun v hv => h3 v (by simp [hv])) (by
          rw [← Array.length_toList, hset]
          simp [hv, Nat.add_mul] at hle ⊢; omega)
      refine ⟨out, ?_, ?_⟩
      · simp only [Instr.fill]
        rw [if_neg (by simp [hv]; omega)]
        rw [hfold]
        exact hf
      · rw [ho, hset]
        have hul : u.cells.toList.length = sz := by simpa using hv
        have e1 : (i + 1) * sz = i * sz + sz := by rw [Nat.add_mul, Nat.one_mul]
        have e2 : (i + 1 + vs.length) * sz = i * sz + sz + vs.length * sz := by rw [Nat.add_mul, Nat.add_mul, Nat.one_mul]
        have hl1 : (cells.toList.take (i * sz)).length = i * sz := by simp; omega
        rw [e1, e2, List.length_cons, hmul, Nat.add_zero, hul]
        have t1 : (cells.toList.take (i * sz) ++ u.cells.toList ++ cells.toList.drop (i * sz + sz)).take (i * sz + sz) = cells.toList.take (i * sz) ++ u.cells.toList := by
          rw [List.take_append_of_le_length (by simp [hul, hl1]), List.take_of_length_le (by simp [hul]; omega)]
        have t2 : (cells.toList.take (i * sz) ++ u.cells.toList ++ cells.toList.drop (i * sz + sz)).drop (i * sz + sz + vs.length * sz) = cells.toList.drop (i * sz + sz + vs.length * sz) := by
          rw [List.drop_append, List.drop_of_length_le (by simp [hul]; omega), List.nil_append, List.drop_drop]
          congr 1
          simp [hul]; omega
        rw [t1, t2]
        simp [List.append_assoc]

end
end Go.Abs

/- DERIVED by an AI agent. A slice written out; a slice cut off a row; all operations together. No program in sight. -/
namespace Go.Abs
set_option linter.unusedSimpArgs false

def pureL (rw : Nat → Row) (es : Nat) : List PV → (List PV → List Nat → Prop) → Prop
  | [], K => K [] []
  | p :: ps, K => pureK rw p fun c f => c.length = es ∧ pureL rw es ps fun cs fs => K (c ++ cs) (f ++ fs)

theorem pureK_det {rw : Nat → Row} {p : PV} {K : List PV → List Nat → Prop} (hk : pureK rw p K) : ∃ c f, K c f ∧ pureK rw p (fun a b => a = c ∧ b = f) := by
  unfold pureK at hk ⊢
  split at hk
  · exact ⟨_, _, hk.2, hk.1, rfl, rfl⟩
  · exact ⟨_, _, hk.2, hk.1, rfl, rfl⟩
  · obtain ⟨q1, q2, hk⟩ := hk
    split at hk
    · exact ⟨_, _, hk, q1, q2, rfl, rfl⟩
    · exact ⟨_, _, hk, q1, q2, rfl, rfl⟩
    · exact hk.elim
  · exact ⟨_, _, hk.2, hk.1, rfl, rfl⟩
  · exact hk.elim

/-- Each of the values, as cells. -/
inductive PureR (rw : Nat → Row) (es : Nat) : List PV → List PV → List Nat → Prop
  | nil : PureR rw es [] [] []
  | cons {p : PV} {ps c cs : List PV} {f fs : List Nat} (h : pureK rw p (fun a b => a = c ∧ b = f)) (hl : c.length = es) (hs : PureR rw es ps cs fs) : PureR rw es (p :: ps) (c ++ cs) (f ++ fs)

theorem pureL_det [Held] {rw : Nat → Row} {es : Nat} : ∀ {ps : List PV} {K : List PV → List Nat → Prop}, pureL rw es ps K → ∃ c f, K c f ∧ PureR rw es ps c f := by
  intro ps
  induction ps with
  | nil => intro K h; exact ⟨_, _, h, .nil⟩
  | cons p ps ih =>
    intro K h
    obtain ⟨c, f, ⟨hl, h⟩, hp⟩ := pureK_det h
    obtain ⟨cs, fs, h, hs⟩ := ih h
    exact ⟨_, _, h, .cons hp hl hs⟩

theorem PureR.sound [Held] {G : Ghost} {w : World} {E : Env} (hw : WOk G E w) {es : Nat} {ps c : List PV} {f : List Nat} (h : PureR E.R es ps c f) : ∀ {us : List Value}, RepL w E 0 ps us →
    c.length = ps.length * es ∧ (∀ u ∈ us, u.cells.size = es) ∧ (∀ j ∈ f, j < lent ∧ ∃ e sz fz cc, (E.R j).kind = .sli e sz fz cc) ∧
      ∀ (w' : World) (E' : Env), Lasts w w' E E' → E'.B = E.B → (∀ j ∈ f, ∀ b, E.rm j = some b → w'.heap[b]? = w.heap[b]? ∧ ¬ E'.L b) → RepL w' E'.bare E'.B c (us.map (·.cells.toList)).flatten := by
  induction h with
  | nil =>
    intro us hr
    have : us = [] := List.eq_nil_of_length_eq_zero hr.1.symm
    subst this
    exact ⟨by simp, by simp, by simp, fun _ _ _ _ _ => ⟨rfl, fun i a => absurd a (by simp)⟩⟩
  | cons hp hl hs ih =>
    intro us hr
    cases us with
    | nil => simp [RepL] at hr
    | cons u us =>
      have h0 : Rep w E 0 _ u := hr.2 0 (by simp) (by simp)
      obtain ⟨c', f', ⟨rfl, rfl⟩, hlen, h1, hfz, hrep⟩ := pureK_sound hp rfl hw h0
      obtain ⟨g1, g2, g3, g4⟩ := ih (us := us) ⟨by simpa using hr.1, fun i a b => hr.2 (i + 1) (by simpa using a) (by simpa using b)⟩
      refine ⟨by simp [g1, hl, Nat.add_mul]; omega, fun v hv => ?_, fun j hj => ?_, fun w' E' hla hB hf => ?_⟩
      · rcases List.mem_cons.1 hv with rfl | hv
        · omega
        · exact g2 v hv
      · rcases List.mem_append.1 hj with hj | hj
        · exact hfz j hj
        · exact g3 j hj
      · simp only [List.map_cons, List.flatten_cons]
        exact (hrep w' E' hla hB fun j hj => hf j (List.mem_append.2 (.inl hj))).append (g4 w' E' hla hB fun j hj => hf j (List.mem_append.2 (.inr hj)))

def buildK (T : Tab) (s : St) (d : Nat) (t : TypeId) (n : Nat) (parts : Array (Nat × Operand)) (K : St → Prop) : Prop :=
  0 < (T t).size ∧ match (T t).k with
  | .sli e => 0 < (T e).size ∧ n = parts.size ∧ idxOk 0 parts.toList = true ∧ n * (T e).size ≤ 16777216 ∧
      pureL s.rw (T e).size (parts.toList.map fun x => s.ev x.2) fun c f => d ∉ f ∧ K (((s.freeze f).row d ⟨(s.rw d).ver + 1, .sli e (T e).size false c⟩).put (some d) (.own d ((s.rw d).ver + 1)))
  | _ => False

theorem idxOk_get : ∀ (l : List (Nat × Operand)) (k : Nat), idxOk k l = true → ∀ j (h : j < l.length), l[j].1 = k + j := by
  intro l
  induction l with
  | nil => intro k _ j h; simp at h
  | cons x xs ih =>
    intro k hk j h
    obtain ⟨i, y⟩ := x
    simp only [idxOk, Bool.and_eq_true, beq_iff_eq] at hk
    cases j with
    | zero => exact hk.1
    | succ j =>
      have hj : j < xs.length := by simpa using h
      have := ih (k + 1) hk.2 j hj
      show xs[j].1 = k + (j + 1)
      omega

section
variable {P : Program} {T : Tab} {G : Ghost} {s : St} {E : Env} {a : Act} {w w' : World} {o : Oper}

theorem build_sound [Held] (hT : T.Ok P) {d : Nat} {t : TypeId} {n : Nat} {parts : Array (Nat × Operand)} {K : St → Prop} (ho : o.op = .buildSlice t n parts) (hdst : o.dst = some d) (hd : d < G.n)
    (hk : buildK T s d t n parts K) : ∃ s', K s' ∧ Effects P G s o s' := by
  obtain ⟨ht, hk⟩ := hk
  split at hk
  · rename_i e hte
    obtain ⟨he, rfl, hidx, hbig, hk⟩ := hk
    have hu : P.underlying t = some (.slice e) := by have := (hT t ht).k; rw [hte] at this; exact this
    obtain ⟨i, zz, hi, hsz, hby, hz', hzl⟩ := (hT e he).info
    have hzs : zz.cells.size = (T e).size := by rw [← Array.length_toList, hzl]; exact (hT e he).zlen
    obtain ⟨c, f, ⟨hdf, hk⟩, hpure⟩ := pureL_det hk
    refine ⟨_, hk, fun a w hs K' Q hK => ?_⟩
    obtain ⟨E, hs⟩ := hs
    rw [← hs.rw] at hpure
    have hreps : RepL w E 0 (parts.toList.map fun x => s.ev x.2) (parts.toList.map fun x => a.eval x.2) := RepL.map fun x _ => eval_rep hs.slots x.2
    obtain ⟨hcl, hus, hfz, hrep⟩ := hpure.sound hs.wok hreps
    -- the run
    let us : List Value := parts.toList.map fun x => a.eval x.2
    have hrun : (execOp a.eval o).run P w = .ok (.value (.slice (some ⟨w.heap.size, 0, none⟩) parts.size parts.size)) (w.alloc (.cells ((us.map fun u : Value => u.cells.toList).flatten ++ []).toArray e)) := by
      rw [List.append_nil]
      have hnb : ¬ (16777216 < parts.size * i.size) := by rw [hsz]; omega
      have hparts : (parts.map fun x => (x.1, a.eval x.2)).toList = parts.toList.map fun x => (x.1, a.eval x.2) := by simp
      have hfillz : ∀ zc : Array Value, Instr.fill (fun j => some (j * i.size, i.size)) ((Array.range (parts.size * i.size)).map (zc[· % zc.size]!)) (parts.toList.map fun x => (x.1, a.eval x.2)) = some ((us.map fun u : Value => u.cells.toList).flatten.toArray) := by
        intro zc
        obtain ⟨out, hfill, hout⟩ := fill_at (T e).size us (parts.toList.map fun x => (x.1, a.eval x.2)) 0 ((Array.range (parts.size * i.size)).map (zc[· % zc.size]!))
          (by simp [us]) (fun j h => by
            have hj : j < parts.toList.length := by simpa using h
            have := idxOk_get parts.toList 0 hidx j hj
            simpa using this) (fun v hv => hus v hv) (by simp [us, hsz])
        have hflat : out.toList = (us.map fun u : Value => u.cells.toList).flatten := by
          rw [hout]; simp [us, hsz]
        simp only [hsz] at hfill ⊢
        rw [hfill, ← hflat]
      by_cases h0 : parts.size * i.size = 0
      · have := hfillz #[]
        simp [execOp, ho, Instr.buildSlice, run_underlying hu, sizeOf, typeInfo, hi, hnb, h0, hparts, newRow] at this ⊢
        simp [this]
      · have := hfillz zz.cells
        simp [execOp, ho, Instr.buildSlice, run_underlying hu, sizeOf, typeInfo, zeroValue, hi, hz', hnb, h0, hparts, newRow, this]
    have hnew : ∀ (o' : Obj), (w.alloc o').heap[w.heap.size]? = some o' := fun o' => heap_alloc_new w o'
    have hlen : (us.map fun u : Value => u.cells.toList).flatten.length = parts.size * (T e).size := by
      have h1 : ∀ (l : List Value), (∀ u ∈ l, u.cells.size = (T e).size) → (l.map fun u : Value => u.cells.toList).flatten.length = l.length * (T e).size := by
        intro l
        induction l with
        | nil => intro _; simp
        | cons x xs ih =>
          intro h
          have := ih fun u hu => h u (by simp [hu])
          simp only [List.map_cons, List.flatten_cons, List.length_append, this, List.length_cons, Nat.add_mul, Nat.one_mul, Array.length_toList, h x (by simp)]
          omega
      rw [h1 us hus]; simp [us]
    have hturn : OneTurn E w (w.alloc (.cells ((us.map fun u : Value => u.cells.toList).flatten ++ []).toArray e)) d ⟨(s.rw d).ver + 1, .sli e (T e).size false c⟩ (some w.heap.size) (.slice (some ⟨w.heap.size, 0, none⟩) parts.size parts.size) :=
      ⟨fun b hb _ => (Ext.alloc w _).block b hb, fun b hb _ => .inl (by simp at hb; omega), by rw [hs.rw]; exact Nat.le_succ _, fun h => by rw [hs.rw] at h; simp at h, fun h => by rw [hs.rw] at h; simp at h, fun _ => Nat.succ_pos _, by simp, rfl, rfl, ⟨rfl, fun _ => by first | exact Nat.le_refl _ | exact Nat.le_succ _⟩⟩
    have hne : ∀ j ∈ f, j ≠ d := fun j hj e => hdf (e ▸ hj)
    have hmax : parts.size ≤ maxLen := by
      have : parts.size ≤ parts.size * (T e).size := Nat.le_mul_of_pos_right _ he
      simp [maxLen]; omega
    refine eff_turn (fz := f) (p := .own d ((s.rw d).ver + 1)) hs hrun hturn hne (fun hl => ?_) ?_ (by simp [hdst, hd]) (fun a' w' h => hK a' w' (by rw [hdst] at h; exact h))
    · unfold RowOk
      simp only [Env.turn, updF_same]
      refine .inr ⟨w.heap.size, parts.size, parts.size, _, [], rfl, .inl hs.wok.kept.size, rfl, hnew _, hlen, Nat.le_refl _, hmax, by rw [List.append_nil]; exact hlen, ?_⟩
      refine hrep _ _ hl rfl fun j hj b hb => ?_
      obtain ⟨q1, e', sz', fz', cc, q2⟩ := hfz j hj
      have hbs := (hs.wok.block hb (by rw [q2]; rfl)).1
      refine ⟨(Ext.alloc w _).block b hbs, fun hL => ?_⟩
      rcases hL with ⟨j', r1, r2⟩ | hX
      rotate_left
      · exact hs.wok.apart j b (by rw [q2]; rfl) hb (hs.wok.xs ▸ hX)
      by_cases hj' : j' = d
      · subst hj'
        simp only [updF_same] at r1
        simp at r1; omega
      · simp only [updF_other _ _ hj'] at r1 r2
        have r3 : (E.R j').kind.live = true := by
          unfold frzF at r2; split at r2
          · exact frz_live _ r2
          · exact r2
        have := hs.wok.inj j j' b (by rw [q2]; rfl) (RK.nd_of_live r3) hb r1
        subst this
        unfold frzF at r2
        rw [if_pos hj] at r2
        simp [frz, q2, RK.live] at r2
    · exact .own (by simp [Env.turn, updF_same]) fun _ _ => by simp [Env.turn, updF_same]
  · exact hk.elim

end
end Go.Abs

/- DERIVED by an AI agent. A struct written out. No program in sight. -/
namespace Go.Abs
set_option linter.unusedSimpArgs false
set_option linter.unusedVariables false

/-- The parts of a struct, laid into its cells. -/
def fillK (T : Tab) (rw : Nat → Row) (fs : List (Nat × TypeId)) : List (Nat × PV) → List PV → (List PV → Prop) → Prop
  | [], cells, K => K cells
  | (i, p) :: rest, cells, K => match fs[i]? with
    | some (off, ft) => cellsK rw p fun c => c.length = (T ft).size ∧ off + c.length ≤ cells.length ∧ fillK T rw fs rest (spl cells off c) K
    | none => False

def buildVK (T : Tab) (rw : Nat → Row) (ev : Operand → PV) (t : TypeId) (parts : Array (Nat × Operand)) (K : PV → Prop) : Prop :=
  0 < (T t).size ∧ match (T t).k with
  | .struct fs => (∀ x ∈ fs, 0 < (T x.2).size) ∧ fillK T rw fs (parts.toList.map fun x => (x.1, ev x.2)) ((T t).zero.map PV.v) fun c => K (.ag c)
  | _ => False

section
variable {P : Program} {T : Tab} {G : Ghost} {s : St} {E : Env} {a : Act} {w w' : World} {o : Oper}

theorem fillK_sound [Held] {rw : Nat → Row} (hR : E.R = rw) (hw : WOk G E w) {fs : List (Nat × TypeId)} {places : Array (Nat × Nat)} (hpl : ∀ i : Nat, places[i]? = (fs[i]?).map fun x : Nat × TypeId => (x.1, (T x.2).size)) :
    ∀ (pp : List (Nat × PV)) (pv : List (Nat × Value)) (c : List PV) (cs : Array Value) {K : List PV → Prop}, fillK T rw fs pp c K → pp.map (·.1) = pv.map (·.1) → RepL w E 0 (pp.map (·.2)) (pv.map (·.2)) → RepL w E 0 c cs.toList →
      ∃ c' out, K c' ∧ Instr.fill (places[·]?) cs pv = some out ∧ RepL w E 0 c' out.toList := by
  intro pp
  induction pp with
  | nil =>
    intro pv c cs K hk h1 h2 h3
    have : pv = [] := by cases pv <;> simp at h1 ⊢
    subst this
    exact ⟨c, cs, hk, rfl, h3⟩
  | cons x pp ih =>
    intro pv c cs K hk h1 h2 h3
    cases pv with
    | nil => simp at h1
    | cons y pv =>
      obtain ⟨i, p⟩ := x
      obtain ⟨j, v⟩ := y
      simp only [List.map_cons, List.cons.injEq] at h1
      obtain ⟨rfl, h1⟩ := h1
      have hp : Rep w E 0 p v := h2.2 0 (by simp) (by simp)
      have h2' : RepL w E 0 (pp.map (·.2)) (pv.map (·.2)) := ⟨by simpa using h2.1, fun k a b => by
        have := h2.2 (k + 1) (by simp at a ⊢; omega) (by simp at b ⊢; omega)
        simpa using this⟩
      unfold fillK at hk
      split at hk
      · rename_i off ft hfi
        obtain ⟨c1, ⟨hl, hfit, hk⟩, hrep, _⟩ := cellsK_sound hk hR hw hp
        have hvs : v.cells.size = (T ft).size := by rw [← hl, hrep.1]; simp
        have hcs : c.length = cs.size := by rw [h3.1]; simp
        have hset := foldl_set v.cells.toList 0 off cs (by simp [hvs]; omega)
        have hfold : (v.cells.zipIdx.foldl (fun cs (x : Value × Nat) => cs.setIfInBounds (off + x.2) x.1) cs) = (v.cells.toList.zipIdx.foldl (fun cs (x : Value × Nat) => cs.setIfInBounds (off + x.2) x.1) cs) := by
          rw [← Array.foldl_toList, Array.toList_zipIdx]
        obtain ⟨c', out, hK, hfill, hout⟩ := ih pv (spl c off c1) (v.cells.toList.zipIdx.foldl (fun cs (x : Value × Nat) => cs.setIfInBounds (off + x.2) x.1) cs) hk h1 h2' (by
          rw [hset]
          have := spl_rep h3 hrep hfit
          simpa using this)
        refine ⟨c', out, hK, ?_, hout⟩
        simp only [Instr.fill]
        rw [hpl, hfi]
        simp only [Option.map_some]
        rw [if_neg (by simp [hvs]; omega)]
        rw [hfold]
        exact hfill
      · exact hk.elim

theorem places_of (hT : T.Ok P) : ∀ (flds : List Field), (∀ x ∈ flds.map (fun f => (f.offset, f.type)), 0 < (T x.2).size) → flds.mapM (fun f => (P.info? f.type).map fun i => (f.offset, i.size)) = some (flds.map fun f => (f.offset, (T f.type).size)) := by
  intro flds
  induction flds with
  | nil => intro _; rfl
  | cons f flds ih =>
    intro h
    obtain ⟨i, z, hi, hs, _⟩ := (hT f.type (h (f.offset, f.type) (by simp))).info
    have := ih fun x hx => h x (by simp at hx ⊢; exact .inr hx)
    simp [List.mapM_cons, this, hi, hs]

theorem buildV_sound [Held] (hT : T.Ok P) {t : TypeId} {parts : Array (Nat × Operand)} {K : PV → Prop} (ho : o.op = .build t parts) (hk : buildVK T s.rw s.ev t parts K) : ∃ p, K p ∧ Yields P G s o p := by
  obtain ⟨ht, hk⟩ := hk
  split at hk
  · rename_i fs hfs
    obtain ⟨hsz, hk⟩ := hk
    have hu := (hT t ht).k
    rw [hfs] at hu
    obtain ⟨flds, hu, hfl⟩ := hu
    obtain ⟨i, z, hi, hs, hb, hz, hzc⟩ := (hT t ht).info
    have hdet : ∃ c', K (.ag c') ∧ fillK T s.rw fs (parts.toList.map fun x => (x.1, s.ev x.2)) ((T t).zero.map PV.v) (· = c') := by
      have : ∀ (pp : List (Nat × PV)) (c : List PV) (K : List PV → Prop), fillK T s.rw fs pp c K → ∃ c', K c' ∧ fillK T s.rw fs pp c (· = c') := by
        intro pp
        induction pp with
        | nil => intro c K h; exact ⟨c, h, rfl⟩
        | cons x pp ih =>
          intro c K h
          obtain ⟨i, p⟩ := x
          unfold fillK at h ⊢
          split at h
          · rename_i off ft hfi
            unfold cellsK at h ⊢
            split at h <;> first
              | exact h.elim
              | (obtain ⟨a1, a2, h⟩ := h; obtain ⟨c', h1, h2⟩ := ih _ _ h; exact ⟨c', h1, a1, a2, h2⟩)
              | (obtain ⟨q, a1, a2, h⟩ := h; obtain ⟨c', h1, h2⟩ := ih _ _ h; exact ⟨c', h1, q, a1, a2, h2⟩)
              | (obtain ⟨q, q2, a1, a2, h⟩ := h; obtain ⟨c', h1, h2⟩ := ih _ _ h; exact ⟨c', h1, q, q2, a1, a2, h2⟩)
          · exact h.elim
      exact this _ _ _ hk
    obtain ⟨c', hK, hfill⟩ := hdet
    refine ⟨_, hK, fun E a w hR hw hx K' Q hK' => ?_⟩
    have hops : ∀ x ∈ parts.toList, Rep w E 0 (s.ev x.2) (a.eval x.2) := fun x hx' => hx x.2 (by
      simp only [ho, Op.operands, List.mem_toArray, List.mem_map]; exact ⟨x, hx', rfl⟩)
    have hplaces : (flds.toList.map fun f => (f.offset, (T f.type).size)).toArray.toList = fs.map fun x => (x.1, (T x.2).size) := by
      rw [← hfl]; simp
    obtain ⟨c'', out, rfl, hf, hout⟩ := fillK_sound (T := T) hR hw (fs := fs) (places := (flds.toList.map fun f => (f.offset, (T f.type).size)).toArray) (fun j => by
        rw [← Array.getElem?_toList, hplaces, List.getElem?_map]) (parts.toList.map fun x => (x.1, s.ev x.2)) (parts.toList.map fun x => (x.1, a.eval x.2)) ((T t).zero.map PV.v) z.cells hfill (by simp) (by
        have e1 : (parts.toList.map fun x => (x.1, s.ev x.2)).map (·.2) = parts.toList.map fun x => s.ev x.2 := by simp
        have e2 : (parts.toList.map fun x => (x.1, a.eval x.2)).map (·.2) = parts.toList.map fun x => a.eval x.2 := by simp
        rw [e1, e2]
        exact RepL.map fun x hx' => hops x hx') (by
        rw [hzc]
        exact ⟨by simp, fun j p q => by simp; exact .v _⟩)
    have hbuilt : P.built t (parts.map fun x => (x.1, a.eval x.2)).toList = some out := by
      unfold Program.built
      rw [hi, hu]
      simp only [hz]
      rw [places_of hT flds.toList (by rw [hfl]; exact hsz)]
      have e : (parts.map fun x => (x.1, a.eval x.2)).toList = parts.toList.map fun x => (x.1, a.eval x.2) := by simp
      rw [e]
      exact hf
    have hrun : (execOp a.eval o).run P w = .ok (.value (.agg out)) w := by
      have := run_build w t (parts.map fun x => (x.1, a.eval x.2)) out hbuilt
      simp [execOp, ho, this]
    refine wp_of_value hrun (hK' _ _ (Ext.refl w) ?_)
    have e : out = out.toList.toArray := by simp
    rw [e]
    exact .ag hout.1 fun i p q => hout.2 i p q
  · exact hk.elim
end
end Go.Abs

/- DERIVED by an AI agent. Rows given over to a callee that writes into them. No program in sight. -/
namespace Go.Abs
set_option linter.unusedSimpArgs false
set_option linter.unusedVariables false

/-- A row given over: what its cells are. -/
structure LR where
  e : Nat
  sz : Nat
  c : List PV

def inR (ins : List LR) (k : Nat) : Row := if lent ≤ k then (match ins[k - lent]? with | some r => ⟨1, .sli r.e r.sz false r.c⟩ | none => ⟨0, .dead⟩) else ⟨0, .dead⟩

def plain (c : List PV) : Prop := ∀ p ∈ c, isV p = true

/-- A CONTRACT of a function that writes into rows that it is given: what these are then. -/
def AM [Held] (P : Program) (f : FuncId) (args : List PV) (ins : List LR) (outs : List (List PV)) (x : Value) : Prop :=
  Enters P f ∧ (∀ r ∈ ins, plain r.c) ∧ outs.length = ins.length ∧ (∀ c ∈ outs, plain c) ∧
    ∀ (w : World) (M : Nat → Nat → Prop) (E : Env) (vals : List Value), WOk ⟨w, M, 0, E.R, E.rm, E.rv, E.X⟩ E w → E.R = inR ins → RepL w E 0 args vals →
      Calls P f vals.toArray w fun e w' => e = .returned x ∧ ∃ E', WOk ⟨w, M, 0, E.R, E.rm, E.rv, E.X⟩ E' w' ∧
        ∀ (i : Nat) (r : LR) (c : List PV), ins[i]? = some r → outs[i]? = some c → E'.R (lent + i) = ⟨1, .sli r.e r.sz false c⟩

/-- Arguments: plain values, rows given over. -/
inductive GiveL (js : List (Nat × Nat)) : List PV → List PV → Prop
  | nil : GiveL js [] []
  | v {x : Value} {l l' : List PV} : GiveL js l l' → GiveL js (.v x :: l) (.v x :: l')
  | clo {f : FuncId} {l l' : List PV} : GiveL js l l' → GiveL js (.clo f [] :: l) (.clo f [] :: l')
  | own {k ver : Nat} {l l' : List PV} (i : Nat) : js[i]? = some (k, ver) → GiveL js l l' → GiveL js (.own k ver :: l) (.own (lent + i) 1 :: l')
  | ag {c c' l l' : List PV} : GiveL js c c' → GiveL js l l' → GiveL js (.ag c :: l) (.ag c' :: l')

/-- The rows that are given are the state's own, and live. -/
def HeldL (rw : Nat → Row) : List (Nat × Nat) → List LR → Prop
  | [], [] => True
  | j :: js, r :: ins => rw j.1 = ⟨j.2, .sli r.e r.sz false r.c⟩ ∧ HeldL rw js ins
  | _, _ => False

/-- The rows as they come back. -/
def wroteF (R : Nat → Row) (js : List (Nat × Nat)) (ins : List LR) (outs : List (List PV)) (k : Nat) : Row :=
  match js.findIdx? (fun j => j.1 == k) with
  | some i => (match js[i]?, ins[i]?, outs[i]? with | some j, some r, some c => ⟨j.2, .sli r.e r.sz false c⟩ | _, _, _ => R k)
  | none => R k
def St.wrote (s : St) (js : List (Nat × Nat)) (ins : List LR) (outs : List (List PV)) : St := { s with rw := wroteF s.rw js ins outs }

/-- A call that is given rows. -/
def askM [Held] (P : Program) (s : St) (g : FuncId) (raw : List PV) (dst : Option Nat) (K : St → Prop) : Prop :=
  ∃ (js : List (Nat × Nat)) (ins : List LR) (args : List PV) (outs : List (List PV)) (x : Value),
    AM P g args ins outs x ∧ GiveL js raw args ∧ HeldL s.rw js ins ∧ (js.map (·.1)).Nodup ∧ K ((s.wrote js ins outs).put dst (.v x))

def callM [Held] (P : Program) (s : St) (f : Operand) (args : Array Operand) (dst : Option Nat) (K : St → Prop) : Prop :=
  match s.ev f with
  | .clo g caps => askM P s g (args.toList.map s.ev ++ caps) dst K
  | _ => False

theorem HeldL.at {rw : Nat → Row} : ∀ {js : List (Nat × Nat)} {ins : List LR}, HeldL rw js ins → js.length = ins.length ∧ ∀ (i : Nat) (j : Nat × Nat) (r : LR), js[i]? = some j → ins[i]? = some r → rw j.1 = ⟨j.2, .sli r.e r.sz false r.c⟩ := by
  intro js
  induction js with
  | nil => intro ins h; cases ins with
    | nil => exact ⟨rfl, fun i j r h => by simp at h⟩
    | cons _ _ => exact h.elim
  | cons j js ih =>
    intro ins h
    cases ins with
    | nil => exact h.elim
    | cons r ins =>
      obtain ⟨h1, h2⟩ := h
      obtain ⟨a, b⟩ := ih h2
      refine ⟨by simp [a], fun i j' r' hj hr => ?_⟩
      cases i with
      | zero => simp at hj hr; subst hj; subst hr; exact h1
      | succ i => exact b i j' r' (by simpa using hj) (by simpa using hr)

theorem wroteF_at {R : Nat → Row} {js : List (Nat × Nat)} {ins : List LR} {outs : List (List PV)} (hn : (js.map (·.1)).Nodup) {i : Nat} {j : Nat × Nat} {r : LR} {c : List PV} (hj : js[i]? = some j) (hr : ins[i]? = some r) (hc : outs[i]? = some c) :
    wroteF R js ins outs j.1 = ⟨j.2, .sli r.e r.sz false c⟩ := by
  have hi : i < js.length := (List.getElem?_eq_some_iff.1 hj).1
  have hji : js[i] = j := (List.getElem?_eq_some_iff.1 hj).2
  have : js.findIdx? (fun x => x.1 == j.1) = some i := by
    rw [List.findIdx?_eq_some_iff_getElem]
    refine ⟨hi, by simp [hji], fun k hk => ?_⟩
    have hp := List.pairwise_iff_getElem.1 hn k i (by simp; omega) (by simp; omega) hk
    simp only [List.getElem_map, hji] at hp
    simpa using hp
  unfold wroteF
  rw [this]
  simp only [hj, hr, hc]

theorem wroteF_not {R : Nat → Row} {js : List (Nat × Nat)} {ins : List LR} {outs : List (List PV)} {k : Nat} (h : k ∉ js.map (·.1)) : wroteF R js ins outs k = R k := by
  have : js.findIdx? (fun x => x.1 == k) = none := by
    rw [List.findIdx?_eq_none_iff]
    intro x hx
    have : x.1 ≠ k := fun e => h (List.mem_map.2 ⟨x, hx, e⟩)
    simpa using this
  unfold wroteF
  rw [this]

theorem plain_rep [Held] {w w' : World} {E E' : Env} {lo lo' : Nat} {c : List PV} {vs : List Value} (h : plain c) (hr : RepL w E lo c vs) : RepL w' E' lo' c vs :=
  ⟨hr.1, fun i a b => (isV_rep (h _ (List.getElem_mem a)) (hr.2 i a b)).1⟩

section
variable {P : Program} {G : Ghost} {s : St}

/-- The callee's ghost. -/
def Env.give (E : Env) (js : List (Nat × Nat)) (ins : List LR) (B : Nat) : Env :=
  let R := inR ins
  let rm := fun k => if lent ≤ k then (js[k - lent]?).bind fun j => E.rm j.1 else none
  { R := R, rm := rm, rv := fun k => if lent ≤ k then (match js[k - lent]? with | some j => E.rv j.1 | none => default) else default, L := mkL (fun _ => False) R rm, B := B, X := fun _ => False }

theorem inR_nd {ins : List LR} {k : Nat} (h : (inR ins k).kind.nd = true) : lent ≤ k ∧ ∃ r, ins[k - lent]? = some r ∧ inR ins k = ⟨1, .sli r.e r.sz false r.c⟩ := by
  unfold inR at h ⊢
  by_cases hk : lent ≤ k
  · rw [if_pos hk] at h ⊢
    split at h
    · rename_i r hr; exact ⟨hk, r, hr, rfl⟩
    · cases h
  · rw [if_neg hk] at h; cases h
theorem inR_at {ins : List LR} {i : Nat} {r : LR} (h : ins[i]? = some r) : inR ins (lent + i) = ⟨1, .sli r.e r.sz false r.c⟩ := by
  unfold inR
  rw [if_pos (by omega), Nat.add_sub_cancel_left, h]

def giveM (E : Env) (js : List (Nat × Nat)) (k b : Nat) : Prop := ∃ j, js[k - lent]? = some j ∧ E.rm j.1 = some b

theorem give_ok [Held] {E : Env} {w : World} (hw : WOk G E w) {js : List (Nat × Nat)} {ins : List LR} (hh : HeldL E.R js ins) (hn : (js.map (·.1)).Nodup) (hp : ∀ r ∈ ins, plain r.c) :
    WOk ⟨w, giveM E js, 0, (E.give js ins w.heap.size).R, (E.give js ins w.heap.size).rm, (E.give js ins w.heap.size).rv, (E.give js ins w.heap.size).X⟩ (E.give js ins w.heap.size) w := by
  obtain ⟨hlen, hat⟩ := hh.at
  have key0 : ∀ (n : Nat) (r : LR), ins[n]? = some r → ∃ j, js[n]? = some j ∧ E.R j.1 = ⟨j.2, .sli r.e r.sz false r.c⟩ := fun n r hr => by
    have hi : n < js.length := by rw [hlen]; exact (List.getElem?_eq_some_iff.1 hr).1
    exact ⟨_, List.getElem?_eq_getElem hi, hat _ _ _ (List.getElem?_eq_getElem hi) hr⟩
  have hmx : ∀ k b, giveM E js k b → ¬ Held.Gl b := fun k b ⟨j, hj, hb⟩ => by
    have hi : k - lent < ins.length := by rw [← hlen]; exact (List.getElem?_eq_some_iff.1 hj).1
    exact hw.ngl hb (by rw [hat _ _ _ hj (List.getElem?_eq_getElem hi)]; rfl)
  have key : ∀ (k : Nat) (r : LR), lent ≤ k → ins[k - lent]? = some r → ∃ j, js[k - lent]? = some j ∧ E.R j.1 = ⟨j.2, .sli r.e r.sz false r.c⟩ := fun k r _ hr => key0 _ r hr
  refine ⟨fun k => ?_, fun k k' b n1 n2 e1 e2 => ?_, fun b => Iff.rfl, fun k h => ?_, rfl, rfl, ⟨fun b h => h.elim, hmx, hw.held⟩, fun k b _ _ h => h, ⟨rfl, rfl, OutLe.refl _, Nat.le_refl _, fun _ _ _ => rfl⟩, fun k => ⟨Nat.le_refl _, fun _ h => ⟨h, rfl, fun h => ⟨h, rfl⟩⟩⟩⟩
  · show RowOk w (E.give js ins w.heap.size) _ k
    unfold RowOk
    show match (inR ins k).kind with | .dead => True | .nil => _ | .box t cells => _ | .sli e sz _ cells => _ | .tab e cells => _
    cases hd : (inR ins k).kind with
    | dead => trivial
    | _ =>
      obtain ⟨hk, r, hr, he⟩ := inR_nd (ins := ins) (k := k) (by rw [hd]; rfl)
      rw [he] at hd
      cases hd
      all_goals
        obtain ⟨j, hj, hrow⟩ := key k r hk hr
        have h0 := hw.rows j.1
        unfold RowOk at h0
        rw [hrow] at h0
        simp only at h0
        have em : (E.give js ins w.heap.size).rm k = E.rm j.1 := by simp [Env.give, hk, hj]
        have ev : (E.give js ins w.heap.size).rv k = E.rv j.1 := by simp [Env.give, hk, hj]
        rw [em, ev]
        rcases h0 with h0 | ⟨b, n, cap, vs, rest, h1, h2, h3, h4, h5, h6, h7, h8, h9⟩
        · exact .inl h0
        · exact .inr ⟨b, n, cap, vs, rest, h1, .inr ⟨hk, j, hj, h1⟩, h3, h4, h5, h6, h7, h8, plain_rep (hp r (List.mem_of_getElem? hr)) h9⟩
  · obtain ⟨hk, r, hr, _⟩ := inR_nd (ins := ins) (k := k) n1
    obtain ⟨hk', r', hr', _⟩ := inR_nd (ins := ins) (k := k') n2
    obtain ⟨j, hj, hrow⟩ := key k r hk hr
    obtain ⟨j', hj', hrow'⟩ := key k' r' hk' hr'
    have e1' : E.rm j.1 = some b := by simpa [Env.give, hk, hj] using e1
    have e2' : E.rm j'.1 = some b := by simpa [Env.give, hk', hj'] using e2
    have := hw.inj j.1 j'.1 b (by rw [hrow]; rfl) (by rw [hrow']; rfl) e1' e2'
    have hi := (List.getElem?_eq_some_iff.1 hj)
    have hi' := (List.getElem?_eq_some_iff.1 hj')
    obtain ⟨a1, a2⟩ := hi
    obtain ⟨b1, b2⟩ := hi'
    have : k - lent = k' - lent := (List.getElem_inj (h₀ := by simp; omega) (h₁ := by simp; omega) hn).1 (by simp [a2, b2, this])
    omega
  · obtain ⟨hk, r, hr, he⟩ := inR_nd (ins := ins) (k := k) h
    show 0 < (inR ins k).ver
    rw [he]; exact Nat.one_pos

theorem give_rep [Held] {E : Env} {w : World} {js : List (Nat × Nat)} {ins : List LR} (hh : HeldL E.R js ins) (B : Nat) {raw args : List PV} (hg : GiveL js raw args) : ∀ {vals : List Value}, RepL w E 0 raw vals → RepL w (E.give js ins B) 0 args vals := by
  obtain ⟨hlen, hat⟩ := hh.at
  induction hg with
  | nil => intro vals h; exact ⟨h.1, fun i a => absurd a (by simp)⟩
  | @v x l l' _ ih =>
    intro vals h
    cases vals with
    | nil => simp [RepL] at h
    | cons y ys =>
      have h0 := h.2 0 (by simp) (by simp)
      simp only [List.getElem_cons_zero] at h0
      have := h0.v_eq; subst this
      have ht := ih (vals := ys) ⟨by simpa using h.1, fun i a b => h.2 (i + 1) (by simpa using a) (by simpa using b)⟩
      refine ⟨by simp [ht.1], fun i a b => ?_⟩
      cases i with
      | zero => exact .v _
      | succ i => exact ht.2 i (by simpa using a) (by simpa using b)
  | @clo f l l' _ ih =>
    intro vals h
    cases vals with
    | nil => simp [RepL] at h
    | cons y ys =>
      have h0 := h.2 0 (by simp) (by simp)
      simp only [List.getElem_cons_zero] at h0
      have ht := ih (vals := ys) ⟨by simpa using h.1, fun i a b => h.2 (i + 1) (by simpa using a) (by simpa using b)⟩
      refine ⟨by simp [ht.1], fun i a b => ?_⟩
      cases i with
      | zero => cases h0 with | clo hl _ => exact .clo hl (fun i h => absurd h (by simp))
      | succ i => exact ht.2 i (by simpa using a) (by simpa using b)
  | @own k ver l l' i hj _ ih =>
    intro vals h
    cases vals with
    | nil => simp [RepL] at h
    | cons y ys =>
      have h0 := h.2 0 (by simp) (by simp)
      simp only [List.getElem_cons_zero] at h0
      have ht := ih (vals := ys) ⟨by simpa using h.1, fun i a b => h.2 (i + 1) (by simpa using a) (by simpa using b)⟩
      refine ⟨by simp [ht.1], fun i' a b => ?_⟩
      cases i' with
      | zero =>
        have hi : i < ins.length := by rw [← hlen]; exact (List.getElem?_eq_some_iff.1 hj).1
        have hr : ins[i]? = some ins[i] := List.getElem?_eq_getElem hi
        have hrow := hat i _ _ hj hr
        cases h0 with
        | own hv hx =>
          refine .own ?_ fun _ _ => ?_
          · show 1 ≤ (inR ins (lent + i)).ver
            rw [inR_at hr]; exact Nat.le_refl _
          · have hx' := hx (by rw [hrow]) (by rw [hrow]; rfl)
            show y = _
            rw [hx']
            simp [Env.give, hj]
      | succ i' => exact ht.2 i' (by simpa using a) (by simpa using b)
  | @ag c c' l l' _ _ ih1 ih2 =>
    intro vals h
    cases vals with
    | nil => simp [RepL] at h
    | cons y ys =>
      have h0 := h.2 0 (by simp) (by simp)
      simp only [List.getElem_cons_zero] at h0
      have ht := ih2 (vals := ys) ⟨by simpa using h.1, fun i a b => h.2 (i + 1) (by simpa using a) (by simpa using b)⟩
      refine ⟨by simp [ht.1], fun i a b => ?_⟩
      cases i with
      | zero =>
        cases h0 with
        | @ag _ _ _ vs hl hh =>
          have h1 := ih1 (vals := vs) ⟨hl, hh⟩
          exact .ag h1.1 h1.2
      | succ i => exact ht.2 i (by simpa using a) (by simpa using b)

/-- The rows' turn as the callee has written them. -/
theorem wrote_turn [Held] {E E' : Env} {w w' : World} (hw : WOk G E w) {js : List (Nat × Nat)} {ins : List LR} {outs : List (List PV)} (hh : HeldL E.R js ins) (hn : (js.map (·.1)).Nodup) (hlo : outs.length = ins.length) (hpl : ∀ c ∈ outs, plain c)
    (hw' : WOk ⟨w, giveM E js, 0, (E.give js ins w.heap.size).R, (E.give js ins w.heap.size).rm, (E.give js ins w.heap.size).rv, (E.give js ins w.heap.size).X⟩ E' w')
    (hE : ∀ (i : Nat) (r : LR) (c : List PV), ins[i]? = some r → outs[i]? = some c → E'.R (lent + i) = ⟨1, .sli r.e r.sz false c⟩) {a : Act} (hs : SimE G E s a w) : Sim G (s.wrote js ins outs) a w' := by
  obtain ⟨hlen, hat⟩ := hh.at
  let E2 : Env := { R := wroteF E.R js ins outs, rm := E.rm, rv := E.rv, L := mkL E.X (wroteF E.R js ins outs) E.rm, B := E.B, X := E.X }
  have hin : ∀ k, k ∈ js.map (·.1) → ∃ (i : Nat) (j : Nat × Nat) (r : LR) (c : List PV), js[i]? = some j ∧ ins[i]? = some r ∧ outs[i]? = some c ∧ j.1 = k ∧ E.R k = ⟨j.2, .sli r.e r.sz false r.c⟩ ∧ wroteF E.R js ins outs k = ⟨j.2, .sli r.e r.sz false c⟩ := by
    intro k hk
    obtain ⟨j, hj, rfl⟩ := List.mem_map.1 hk
    obtain ⟨i, hi, rfl⟩ := List.getElem_of_mem hj
    have h1 : js[i]? = some js[i] := List.getElem?_eq_getElem hi
    have h2 : ins[i]? = some ins[i] := List.getElem?_eq_getElem (by omega)
    have h3 : outs[i]? = some outs[i] := List.getElem?_eq_getElem (by omega)
    exact ⟨i, _, _, _, h1, h2, h3, rfl, hat i _ _ h1 h2, wroteF_at hn h1 h2 h3⟩
  have ht : Turn G E E2 w w' (· ∈ js.map (·.1)) := by
    refine ⟨rfl, rfl, rfl, fun k hk => ⟨wroteF_not hk, rfl, rfl⟩, fun b hb hD => ?_, fun k b hD hb hnd => ?_, fun k hD => ?_, fun k hD _ hs => ?_, fun k hD _ hs => ?_, fun k hD hs => ?_, fun k k' b hD hD' h1 h2 e1 e2 => ?_, hw'.kept.size, hw'.kept.os, hw'.kept.tape, hw'.kept.output⟩
    · refine hw'.kept.block b hb fun k0 hM => ?_
      obtain ⟨j, hj0, hjb⟩ := hM
      have hj := List.mem_of_getElem? hj0
      have hmem : j.1 ∈ js.map (·.1) := List.mem_map.2 ⟨j, hj, rfl⟩
      obtain ⟨i, j', r, c, _, _, _, _, h5, _⟩ := hin _ hmem
      have := hD j.1 hmem hjb
      rw [h5] at this; cases this
    · obtain ⟨i, j, r, c, _, _, _, _, h5, h6⟩ := hin k hD
      exact .inr ⟨hb, by rw [h5]; rfl, fun _ => by rw [h5]; rfl⟩
    · obtain ⟨i, j, r, c, _, _, _, _, h5, h6⟩ := hin k hD
      show _ ≤ (wroteF E.R js ins outs k).ver
      rw [h5, h6]; exact Nat.le_refl _
    · obtain ⟨i, j, r, c, _, _, _, _, h5, h6⟩ := hin k hD
      exact ⟨by rw [h5]; rfl, rfl⟩
    · obtain ⟨i, j, r, c, _, _, _, _, h5, h6⟩ := hin k hD
      exact ⟨by rw [h5]; rfl, rfl⟩
    · obtain ⟨i, j, r, c, _, _, _, _, h5, h6⟩ := hin k hD
      have := hw.pos k (by rw [h5]; rfl)
      rw [h5] at this
      show 0 < (wroteF E.R js ins outs k).ver
      rw [h6]; exact this
    · obtain ⟨_, _, _, _, _, _, _, _, h5, _⟩ := hin k hD
      obtain ⟨_, _, _, _, _, _, _, _, h5', _⟩ := hin k' hD'
      exact hw.inj k k' b (by rw [h5]; rfl) (by rw [h5']; rfl) e1 e2
  have hrows : ∀ k, k ∈ js.map (·.1) → RowOk w' E2 G.C k := by
    intro k hk
    obtain ⟨i, j, r, c, h1, h2, h3, h4, h5, h6⟩ := hin k hk
    have hrow' := hw'.rows (lent + i)
    unfold RowOk at hrow'
    rw [hE i r c h2 h3] at hrow'
    simp only at hrow'
    have hpin := (hw'.pin (lent + i)).2 (by
      rw [hE i r c h2 h3]
      show 1 = (inR ins (lent + i)).ver
      rw [inR_at h2]) (by rw [hE i r c h2 h3]; rfl)
    obtain ⟨_, q1, q2⟩ := hpin
    have q2 := (q2 (by rw [hE i r c h2 h3]; rfl)).2
    have q1' : E'.rm (lent + i) = E.rm k := by rw [q1]; simp [Env.give, h1, h4]
    have q2' : E'.rv (lent + i) = E.rv k := by rw [q2]; simp [Env.give, h1, h4]
    rw [q1', q2'] at hrow'
    unfold RowOk
    show match (wroteF E.R js ins outs k).kind with | .dead => True | .nil => _ | .box t cells => _ | .sli e sz _ cells => _ | .tab e cells => _
    rw [h6]
    rcases hrow' with hr | ⟨b, n, cap, vs, rest, g1, g2, g3, g4, g5, g6, g7, g8, g9⟩
    · exact .inl hr
    · have hnd : (E.R k).kind.nd = true := by rw [h5]; rfl
      exact .inr ⟨b, n, cap, vs, rest, g1, (hw.block g1 hnd).2, g3, g4, g5, g6, g7, g8, plain_rep (hpl c (List.mem_of_getElem? h3)) g9⟩
  have key := ht.sim hs hrows
  have e : ({ s with rw := E2.R } : St) = s.wrote js ins outs := by
    show ({ s with rw := wroteF E.R js ins outs } : St) = _
    rw [hs.rw]; rfl
  exact ⟨_, e ▸ key⟩

theorem callM_sound [Held] {o : Oper} {c : Call} {f : Operand} {K : St → Prop} (ho : o.op = .call c) (hc : c.callee = .value f) (hd : ∀ d, o.dst = some d → d < G.n) (hk : callM P s f c.args o.dst K) :
    ∃ s', K s' ∧ Effects P G s o s' := by
  unfold callM at hk
  split at hk
  · rename_i g caps hev
    obtain ⟨js, ins, args, outs, x, ham, hg, hh, hn, hk⟩ := hk
    refine ⟨_, hk, fun a w ⟨E, hs⟩ K' Q hK => ?_⟩
    have hfx := eval_rep hs.slots f
    rw [hev] at hfx
    generalize hvf : a.eval f = vf at hfx
    cases hfx with
    | @clo _ _ _ _ vs hl hh' =>
      obtain ⟨hent, hpi, hlo, hpo, hcall⟩ := ham
      have hh2 : HeldL E.R js ins := by rw [hs.rw]; exact hh
      have hraw : RepL w E 0 (c.args.toList.map s.ev ++ caps) (c.args.toList.map a.eval ++ vs) :=
        RepL.append (RepL.map fun x _ => eval_rep hs.slots x) ⟨hl, hh'⟩
      have hcall := hcall w (giveM E js) (E.give js ins w.heap.size) _ (give_ok hs.wok hh2 hn hpi) rfl (give_rep hh2 w.heap.size hg hraw)
      unfold Oper.wp
      rw [run_call ho hc hvf hent]
      show Calls P g _ w _
      refine hcall.mono fun e w' ⟨he, E', hw', hE'⟩ => ?_
      subst he
      obtain ⟨E2, hs2⟩ := wrote_turn hs.wok hh2 hn hlo hpo hw' hE' hs
      exact hK _ _ ⟨E2, hs2.put hd (.v x)⟩
  · exact hk.elim

end
end Go.Abs
