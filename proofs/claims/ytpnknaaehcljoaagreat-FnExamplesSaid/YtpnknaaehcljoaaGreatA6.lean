/- DERIVED by an AI agent. -/
import Derived.Test.YtpnknaaehcljoaaGreatA5
/- DERIVED by an AI agent. Tables that come back from a callee; results beside them. No program in sight. -/
namespace Go.Abs
set_option linter.unusedSimpArgs false
set_option linter.unusedVariables false
theorem perm_get {p q : List Nat} (hq : q.Perm (List.range p.length)) : (q.map fun i => p.getD i 0).Perm p := by
  have h1 := hq.map fun i => p.getD i 0
  have h2 : (List.range p.length).map (fun i => p.getD i 0) = p := by
    refine List.ext_getElem (by simp) fun i a b => ?_
    simp [List.getD, b]
  rw [h2] at h1
  exact h1
section
variable {P : Program} {G : Ghost} {s : St} {E E' : Env} {w w' : World} {k v e e2 B : Nat} {p q : List Nat} {rows rows' : List (List PV)}
def InT (k : Nat) (p : List Nat) (j : Nat) : Prop := j = k ∨ ∃ x ∈ p, j = sid k x
theorem back_rows [Held] (hw : WOk G E w) (ht : TabIs E.R k v e e2 p rows) (hn : p.Nodup) (hpl : plainT rows')
    (hw' : WOk ⟨w, giveMT E k p, 0, (E.giveT k p (inT e e2 rows) w.heap.size).R, (E.giveT k p (inT e e2 rows) w.heap.size).rm, (E.giveT k p (inT e e2 rows) w.heap.size).rv, (E.giveT k p (inT e e2 rows) w.heap.size).X⟩ E' w')
    (hE : TabIs E'.R lent 1 e e2 q rows') (hq : q.Perm (List.range rows.length)) {E3 : Env}
    (hR : ∀ j, InT k p j → E3.R j = tabF E.R k v e e2 (q.map fun i => p.getD i 0) rows' j ∧ E3.rm j = E.rm j ∧ E3.rv j = E.rv j) :
    ∀ j, InT k p j → RowOk w' E3 G.C j := by
  have hlq : q.length = rows.length := by have := hq.length_eq; simpa using this
  have hqlt : ∀ i, i < q.length → q.getD i 0 < rows.length := fun i hi => by
    have := hq.mem_iff.1 (getD_memN hi)
    simpa using this
  have hp' : (q.map fun i => p.getD i 0).Perm p := perm_get (by rw [ht.len]; exact hq)
  have hn' : (q.map fun i => p.getD i 0).Nodup := hp'.nodup_iff.2 hn
  have hl' : (q.map fun i => p.getD i 0).length = rows'.length := by rw [List.length_map, hE.len]
  have hget : ∀ i, i < q.length → (q.map fun i => p.getD i 0).getD i 0 = p.getD (q.getD i 0) 0 := fun i hi => by simp [List.getD, hi]
  have pin : ∀ j, (E'.R j).ver = ((E.giveT k p (inT e e2 rows) w.heap.size).R j).ver → (E'.R j).kind.slice = true → E'.rm j = (E.giveT k p (inT e e2 rows) w.heap.size).rm j ∧ E'.rv j = (E.giveT k p (inT e e2 rows) w.heap.size).rv j := fun j h1 h2 => by
    obtain ⟨_, q1, q2⟩ := (hw'.pin j).2 h1 (RK.nd_of_slice h2)
    exact ⟨q1, (q2 h2).2⟩
  have pinTop : E'.rm lent = E.rm k ∧ E'.rv lent = E.rv k := by
    have h := pin lent (by rw [hE.top, giveT_R, inT_top]) (by rw [hE.top]; rfl)
    rw [giveT_top.1, giveT_top.2] at h
    exact h
  have pinRow : ∀ i, i < q.length → E'.rm (sid lent (q.getD i 0)) = E.rm (sid k (p.getD (q.getD i 0) 0)) ∧ E'.rv (sid lent (q.getD i 0)) = E.rv (sid k (p.getD (q.getD i 0) 0)) := fun i hi => by
    have h := pin (sid lent (q.getD i 0)) (by rw [hE.row i hi, giveT_R, inT_row (hqlt i hi)]) (by rw [hE.row i hi]; rfl)
    rw [(giveT_row _).1, (giveT_row _).2] at h
    exact h
  intro j hj
  obtain ⟨r1, r2, r3⟩ := hR j hj
  rcases hj with rfl | ⟨x, hx, rfl⟩
  · have hrow := hw'.rows lent
    unfold RowOk at hrow ⊢
    rw [hE.top] at hrow
    rw [r1, tabF_top, r2, r3]
    rw [pinTop.1, pinTop.2] at hrow
    rcases hrow with ⟨h1, h2, h3⟩ | ⟨b, n, cap, vs, rest, h1, h2, h3, h4, h5, h6, h7, h8, h9⟩
    · refine .inl ⟨h1, h2, List.eq_nil_of_length_eq_zero ?_⟩
      rw [cellsT_length, List.length_map, ← cellsT_length lent q, h3]; rfl
    · refine .inr ⟨b, n, cap, vs, rest, h1, (hw.block h1 (by rw [ht.top]; rfl)).2, h3, h4, h5, h6, h7, h8, ?_, fun i a' b' => ?_⟩
      · rw [cellsT_length, List.length_map, ← cellsT_length lent q]; exact h9.1
      · have hi : i < q.length := by simpa [cellsT_length] using a'
        have h0 := h9.2 i (by rw [cellsT_length]; exact hi) b'
        have q1 : (cellsT lent q)[i]'(by rw [cellsT_length]; exact hi) = .own (sid lent (q.getD i 0)) 1 := by simp [cellsT, List.getD, hi]
        have q2 : (cellsT j (q.map fun i => p.getD i 0))[i] = .own (sid j ((q.map fun i => p.getD i 0).getD i 0)) 1 := by simp [cellsT, List.getD, hi]
        rw [q1] at h0
        rw [q2]
        have hmem : (q.map fun i => p.getD i 0).getD i 0 ∈ p := hp'.mem_iff.1 (getD_memN (by rw [List.length_map]; exact hi))
        obtain ⟨s1, s2, s3⟩ := hR (sid j ((q.map fun i => p.getD i 0).getD i 0)) (.inr ⟨_, hmem, rfl⟩)
        cases h0 with
        | own hv hx =>
          refine .own ?_ fun _ _ => ?_
          · rw [s1, tabF_row hn' (by rw [List.length_map]; exact hi)]; exact Nat.le_refl _
          · rw [s3, hget i hi, ← (pinRow i hi).2]
            exact hx (by rw [hE.row i hi]) (by rw [hE.row i hi]; rfl)
  · obtain ⟨i, hi, rfl⟩ := mem_getDN (hp'.mem_iff.2 hx)
    have hi' : i < q.length := by simpa using hi
    have hrow := hw'.rows (sid lent (q.getD i 0))
    unfold RowOk at hrow ⊢
    rw [hE.row i hi', (pinRow i hi').1, (pinRow i hi').2] at hrow
    rw [r1, tabF_row hn' hi, r2, r3, hget i hi']
    rcases hrow with h | ⟨b, n, cap, vs, rest, h1, h2, h3, h4, h5, h6, h7, h8, h9⟩
    · exact .inl h
    · have hb := (hw.block h1 (by rw [ht.row _ (by rw [ht.len]; exact hqlt i hi')]; rfl)).2
      rw [← hget i hi'] at hb
      have h9' := plain_rep (w' := w') (E' := E3.bare) (lo' := E3.B) (hpl i (by rw [← hE.len]; exact hi')) h9
      refine Or.inr ⟨b, n, cap, vs, rest, h1, ?_, h3, h4, h5, h6, h7, h8, h9'⟩
      rw [← hget i hi']; exact hb
theorem back_turn [Held] (hw : WOk G E w) (ht : TabIs E.R k v e e2 p rows) (hn : p.Nodup) {p' : List Nat} (hp' : p'.Perm p) {pv : Nat → Row} {px' : Nat → Prop} {pm : Nat → Option Nat} {px : Nat → Value}
    (hw' : WOk ⟨w, giveMT E k p, 0, pv, pm, px, px'⟩ E' w') :
    Turn G E { R := tabF E.R k v e e2 p' rows', rm := E.rm, rv := E.rv, L := mkL E.X (tabF E.R k v e e2 p' rows') E.rm, B := E.B, X := E.X } w w' (InT k p) := by
  have hn' : p'.Nodup := hp'.nodup_iff.2 hn
  have hin : ∀ j, InT k p j → ((E.R j).kind.slice = true ∧ (E.R j).kind.nd = true ∧ (E.R j).kind.live = true) ∧ (tabF E.R k v e e2 p' rows' j).ver = (E.R j).ver ∧ (tabF E.R k v e e2 p' rows' j).kind.nd = true := by
    intro j hj
    rcases hj with rfl | ⟨x, hx, rfl⟩
    · rw [ht.top, tabF_top]; exact ⟨⟨rfl, rfl, rfl⟩, rfl, rfl⟩
    · obtain ⟨i, hi, rfl⟩ := mem_getDN hx
      rw [ht.row i hi]
      obtain ⟨i', hi', he⟩ := mem_getDN (hp'.mem_iff.2 hx)
      rw [← he, tabF_row hn' hi']
      exact ⟨⟨rfl, rfl, rfl⟩, rfl, rfl⟩
  refine ⟨rfl, rfl, rfl, fun j hj => ⟨tabF_other (fun h => hj (.inl h)) fun x hx h => hj (.inr ⟨x, hp'.mem_iff.1 hx, h⟩), rfl, rfl⟩, fun b hb hD => ?_, fun j b hD hb hnd => ?_, fun j hD => ?_, fun j hD _ hs => ?_, fun j hD _ hs => ?_, fun j hD hs => ?_, fun j j' b hD hD' h1 h2 e1 e2 => ?_, hw'.kept.size, hw'.kept.os, hw'.kept.tape, hw'.kept.output⟩
  · refine hw'.kept.block b hb fun k0 hM => ?_
    rcases hM with ⟨_, hM⟩ | ⟨i, hi, _, hM⟩
    · have := hD k (.inl rfl) hM
      rw [ht.top] at this; cases this
    · have hx := getD_memN hi
      have := hD (sid k (p.getD i 0)) (.inr ⟨_, hx, rfl⟩) hM
      rw [(hin _ (.inr ⟨_, hx, rfl⟩)).1.2.2] at this; cases this
  · exact .inr ⟨hb, (hin j hD).1.2.1, fun _ => (hin j hD).1.2.2⟩
  · exact Nat.le_of_eq (hin j hD).2.1.symm
  · exact ⟨(hin j hD).1.1, rfl⟩
  · exact ⟨(hin j hD).1.2.1, rfl⟩
  · have := hw.pos j (hin j hD).1.2.1
    show 0 < (tabF E.R k v e e2 p' rows' j).ver
    rw [(hin j hD).2.1]; exact this
  · exact hw.inj j j' b (hin j hD).1.2.1 (hin j' hD').1.2.1 e1 e2
theorem back_adopt [Held] {D : Nat → Prop} {E2 : Env} (hw : WOk G E w) (h : Turn G E E2 w w' D) (hsame : E2.rm = E.rm ∧ E2.B = E.B ∧ E2.X = E.X) (hDnd : ∀ j, D j → (E.R j).kind.nd = true) {d : Nat} {ls : List (TypeId × Option Nat × List PV)} {lv : List (Value × Option Nat)}
    (hd : ∀ j i, D j → j ≠ leafId d i) (hls : LeafsAt w' (Env.out w.heap.size (blk lv)) ls lv) (hlk : Links w' ls lv) (hn : (blk lv).Nodup) :
    Turn G E (E2.adopt d ls lv) w w' (fun j => D j ∨ ∃ i, i < ls.length ∧ j = leafId d i) ∧
      (∀ j, (∃ i, i < ls.length ∧ j = leafId d i) → RowOk w' (E2.adopt d ls lv) G.C j) ∧ Agr (E2.adopt d ls lv) (fun j => (E2.R j).ver) d 0 lv ∧
      (∀ j, D j → (E2.adopt d ls lv).R j = E2.R j ∧ (E2.adopt d ls lv).rm j = E2.rm j ∧ (E2.adopt d ls lv).rv j = E2.rv j) ∧
      Lasts w' w' (Env.out w.heap.size (blk lv)).bare (E2.adopt d ls lv).bare := by
  have hlen := hls.length
  have atR : ∀ j (h : j < ls.length), (E2.adopt d ls lv).R (leafId d j) = ⟨(E2.R (leafId d j)).ver + 1, leafKind E2.R d j ls[j].1 ls[j].2.1 ls[j].2.2⟩ := fun j h => by
    have h' : j < (rowsOf E2.R d ls 0).length := by rw [rowsOf_length]; exact h
    have := updL_at E2.R d (rowsOf E2.R d ls 0) 0 j h'
    rw [Nat.zero_add] at this
    show updL E2.R d (rowsOf E2.R d ls 0) 0 (leafId d j) = _
    rw [this, rowsOf_get E2.R d ls 0 j h h', Nat.zero_add]
  have atM : ∀ j (h : j < ls.length) (h' : j < lv.length), (E2.adopt d ls lv).rm (leafId d j) = lv[j].2 := fun j h h' => by
    have := updL_at E2.rm d (lv.map (·.2)) 0 j (by simpa using h')
    rw [Nat.zero_add] at this
    show updL E2.rm d (lv.map (·.2)) 0 (leafId d j) = _
    rw [this]; simp
  have atV : ∀ j (h : j < ls.length) (h' : j < lv.length), (E2.adopt d ls lv).rv (leafId d j) = lv[j].1 := fun j h h' => by
    have := updL_at E2.rv d (lv.map (·.1)) 0 j (by simpa using h')
    rw [Nat.zero_add] at this
    show updL E2.rv d (lv.map (·.1)) 0 (leafId d j) = _
    rw [this]; simp
  have off : ∀ j, ¬ (∃ i, i < ls.length ∧ j = leafId d i) → (E2.adopt d ls lv).R j = E2.R j ∧ (E2.adopt d ls lv).rm j = E2.rm j ∧ (E2.adopt d ls lv).rv j = E2.rv j := fun j hk => by
    refine ⟨updL_other _ d j _ 0 fun i hj e => hk ⟨i, by rwa [rowsOf_length] at hj, by simpa using e⟩, updL_other _ d j _ 0 fun i hj e => hk ⟨i, by simp at hj; omega, by simpa using e⟩, updL_other _ d j _ 0 fun i hj e => hk ⟨i, by simp at hj; omega, by simpa using e⟩⟩
  have offD : ∀ j, D j → ¬ (∃ i, i < ls.length ∧ j = leafId d i) := fun j hj ⟨i, _, e⟩ => hd j i hj e
  have back : ∀ j b, (E2.R j).kind.nd = true → E2.rm j = some b → b < w.heap.size := fun j b hnd hb => by
    rw [hsame.1] at hb
    by_cases hD : D j
    · exact (hw.block hb (hDnd j hD)).1
    · rw [(h.keep j hD).1] at hnd; exact (hw.block hb hnd).1
  have hturn : Turn G E (E2.adopt d ls lv) w w' (fun j => D j ∨ ∃ i, i < ls.length ∧ j = leafId d i) := by
    refine ⟨rfl, ?_, hsame.2.2, fun j hj => ?_, fun b hb hD => h.blocks b hb fun j hj => hD j (.inl hj), ?_, ?_, ?_, ?_, ?_, ?_, h.size, h.os, h.tape, h.output⟩
    · exact h.B
    · obtain ⟨o1, o2, o3⟩ := off j fun hi => hj (.inr hi)
      obtain ⟨k1, k2, k3⟩ := h.keep j fun hi => hj (.inl hi)
      exact ⟨o1.trans k1, o2.trans k2, o3.trans k3⟩
    · intro j b hD hb hnd
      by_cases hi : ∃ i, i < ls.length ∧ j = leafId d i
      · obtain ⟨i, hi, rfl⟩ := hi
        rw [atM i hi (by omega)] at hb
        exact .inl ((hls.get i hi (by omega)).blk b hb).1
      · have hD := hD.resolve_right hi
        obtain ⟨o1, o2, o3⟩ := off j hi
        rw [o2] at hb; rw [o1] at hnd ⊢
        exact h.fresh j b hD hb hnd
    · intro j hD
      by_cases hi : ∃ i, i < ls.length ∧ j = leafId d i
      · obtain ⟨i, hi, rfl⟩ := hi
        rw [atR i hi]
        by_cases hD' : D (leafId d i)
        · exact absurd rfl (hd _ i hD')
        · rw [(h.keep _ hD').1]; exact Nat.le_succ _
      · rw [(off j hi).1]; exact h.ver j (hD.resolve_right hi)
    · intro j hD he hs
      by_cases hi : ∃ i, i < ls.length ∧ j = leafId d i
      · obtain ⟨i, hi, rfl⟩ := hi
        by_cases hD' : D (leafId d i)
        · exact absurd rfl (hd _ i hD')
        · rw [atR i hi, (h.keep _ hD').1] at he; simp at he
      · obtain ⟨o1, o2, o3⟩ := off j hi
        rw [o1] at he hs; rw [o3]
        exact h.same1 j (hD.resolve_right hi) he hs
    · intro j hD he hs
      by_cases hi : ∃ i, i < ls.length ∧ j = leafId d i
      · obtain ⟨i, hi, rfl⟩ := hi
        by_cases hD' : D (leafId d i)
        · exact absurd rfl (hd _ i hD')
        · rw [atR i hi, (h.keep _ hD').1] at he; simp at he
      · obtain ⟨o1, o2, o3⟩ := off j hi
        rw [o1] at he hs; rw [o2]
        exact h.same2 j (hD.resolve_right hi) he hs
    · intro j hD hnd
      by_cases hi : ∃ i, i < ls.length ∧ j = leafId d i
      · obtain ⟨i, hi, rfl⟩ := hi
        rw [atR i hi]; exact Nat.succ_pos _
      · rw [(off j hi).1] at hnd ⊢; exact h.pos j (hD.resolve_right hi) hnd
    · intro j j' b hD hD' h1 h2 e1 e2
      have leafb : ∀ i (hi : i < ls.length), (E2.adopt d ls lv).rm (leafId d i) = some b → w.heap.size ≤ b := fun i hi he => by
        rw [atM i hi (by omega)] at he
        exact ((hls.get i hi (by omega)).blk b he).1
      by_cases hi : ∃ i, i < ls.length ∧ j = leafId d i
      · by_cases hi' : ∃ i, i < ls.length ∧ j' = leafId d i
        · obtain ⟨i, hi, rfl⟩ := hi
          obtain ⟨i', hi', rfl⟩ := hi'
          rw [atM i hi (by omega)] at e1
          rw [atM i' hi' (by omega)] at e2
          rw [blk_inj hn (by omega) (by omega) e1 e2]
        · obtain ⟨i, hi, rfl⟩ := hi
          have g := leafb i hi e1
          obtain ⟨o1, o2, o3⟩ := off j' hi'
          rw [o1] at h2; rw [o2] at e2
          have := back j' b h2 e2
          omega
      · obtain ⟨o1, o2, o3⟩ := off j hi
        rw [o1] at h1; rw [o2] at e1
        by_cases hi' : ∃ i, i < ls.length ∧ j' = leafId d i
        · obtain ⟨i', hi', rfl⟩ := hi'
          have g := leafb i' hi' e2
          have := back j b h1 e1
          omega
        · obtain ⟨p1, p2, p3⟩ := off j' hi'
          rw [p1] at h2; rw [p2] at e2
          exact h.inj j j' b (hD.resolve_right hi) (hD'.resolve_right hi') h1 h2 e1 e2
  have hbare : Lasts w' w' (Env.out w.heap.size (blk lv)).bare (E2.adopt d ls lv).bare := by
    refine ⟨fun b hb hL => ⟨rfl, fun hL' => ?_⟩, fun _ => Nat.le_refl _, fun _ _ h => absurd h (by simp [Env.bare, RK.slice]), fun _ _ h => absurd h (by simp [Env.bare, RK.nd]), Nat.le_refl _⟩
    rcases hL' with ⟨j, hj, hlv⟩ | hX
    rotate_left
    · exact hL (.inl (by have := hw.fx.low b (by rw [← hw.xs, ← hsame.2.2]; exact hX); have := hw.kept.size; omega))
    have hnot : ¬ (b < w.heap.size ∨ b ∈ blk lv) := hL
    by_cases hi : ∃ i, i < ls.length ∧ j = leafId d i
    · obtain ⟨i, hi, rfl⟩ := hi
      have hk' : (E2.adopt d ls lv).rm (leafId d i) = some b := hj
      rw [atM i hi (by omega)] at hk'
      refine hnot (.inr ?_)
      simp only [blk, List.mem_filterMap]
      exact ⟨_, List.getElem_mem (by omega), hk'⟩
    · obtain ⟨o1, o2, _⟩ := off j hi
      have hk' : (E2.adopt d ls lv).rm j = some b := hj
      have hlv' : ((E2.adopt d ls lv).R j).kind.live = true := hlv
      rw [o2] at hk'; rw [o1] at hlv'
      exact hnot (.inl (back j b (RK.nd_of_live hlv') hk'))
  refine ⟨hturn, ?_, fun j hj => ?_, fun j hj => off j (offD j hj), hbare⟩
  · rintro j ⟨i, hi, rfl⟩
    have hleaf := hls.get i hi (by omega)
    unfold RowOk
    rw [atR i hi, atM i hi (by omega), atV i hi (by omega)]
    generalize hx1 : ls[i] = lx at hleaf
    generalize hy1 : lv[i] = ly at hleaf
    cases hleaf with
    | nil => exact .inl ⟨rfl, rfl, rfl⟩
    | tbn => exact .inl ⟨rfl, rfl, by simp [tabCells]⟩
    | @tb e b n cap cells vs rest hB hh hnn hc hm hll hr =>
      have hlink := hlk i e cells b n cap (by rw [List.getElem?_eq_getElem hi, hx1]) (by rw [List.getElem?_eq_getElem (by omega), hy1]) vs rest hh hnn
      refine .inr ⟨b, n, cap, vs, rest, rfl, .inl (Nat.le_trans hw.kept.size hB), rfl, hh, hnn, hc, hm, hll, by simp [tabCells, hr, hnn], fun i' a b' => ?_⟩
      have hi' : i' < cells.length := by simpa [tabCells] using a
      have h0 := hlink i' b'
      have hlt : i + 1 + i' < lv.length := by
        cases hq : lv[i + 1 + i']? with
        | none => rw [hq] at h0; cases h0
        | some x => exact (List.getElem?_eq_some_iff.1 hq).1
      rw [List.getElem?_eq_getElem hlt] at h0
      have h0 : lv[i + 1 + i'].1 = vs[i'] := by simpa using h0
      show Rep w' (E2.adopt d ls lv) 0 (tabCells E2.R d i cells.length)[i'] vs[i']
      simp only [tabCells, List.getElem_map, List.getElem_range]
      refine .own ?_ fun _ _ => ?_
      · rw [atR (i + 1 + i') (by omega)]; exact Nat.le_refl _
      · rw [atV (i + 1 + i') (by omega) hlt, h0]
    | @fr e sz b n cap cells vs rest hB hh hnn hc hm hll hr =>
      refine .inr ⟨b, n, cap, vs, rest, rfl, .inl ?_, rfl, hh, hnn, hc, hm, hll, hr.mono hbare ?_⟩
      · exact Nat.le_trans hw.kept.size hB
      · show E2.B ≤ w.heap.size
        rw [hsame.2.1, hw.base]; exact hw.kept.size
  · rw [Nat.zero_add]
    have hj' : j < ls.length := by omega
    rw [atR j hj', atV j hj' hj]
    exact ⟨rfl, rfl⟩
theorem callT_sound [Held] {o : Oper} {c : Call} {f : Operand} {K : St → Prop} (ho : o.op = .call c) (hc : c.callee = .value f) (hd : ∀ d, o.dst = some d → d < G.n)
    (hk : match s.ev f with | .clo g caps => askT P s g (c.args.toList.map s.ev ++ caps) o.dst K | _ => False) {a : Act} (hs : Sim G s a w) {K' : Act → World → Prop} {Q : Exit → Act → World → Prop}
    (hK : ∀ s' a' w', K s' → Sim G s' a' w' → K' a' w') : o.wp P a w K' Q := by
  split at hk
  · rename_i g caps hev
    obtain ⟨k, v, e, e2, p, rows, rows', args, res, hat, hg, ht, hn, hk⟩ := hk
    obtain ⟨E, hs⟩ := hs
    have hfx := eval_rep hs.slots f
    rw [hev] at hfx
    generalize hvf : a.eval f = vf at hfx
    cases hfx with
    | @clo _ _ _ _ vs hl hh' =>
      obtain ⟨hent, hpi, hpo, hlo, hcall⟩ := hat
      have ht2 : TabIs E.R k v e e2 p rows := by rw [hs.rw]; exact ht
      have hraw : RepL w E 0 (c.args.toList.map s.ev ++ caps) (c.args.toList.map a.eval ++ vs) :=
        RepL.append (RepL.map fun x _ => eval_rep hs.slots x) ⟨hl, hh'⟩
      have hcall := hcall w (giveMT E k p) (E.giveT k p (inT e e2 rows) w.heap.size) _ (give_okT hs.wok ht2 hn hpi) rfl (give_repT ht2 w.heap.size hg hraw)
      unfold Oper.wp
      rw [run_call ho hc hvf hent]
      show Calls P g _ w _
      refine hcall.mono fun en w' ⟨E', q, vr, lv, he, hw', hE', hq, hres⟩ => ?_
      subst he
      have hp' : (q.map fun i => p.getD i 0).Perm p := perm_get (by rw [ht.len]; exact hq)
      have hk := hk _ hp'
      let E2 : Env := { R := tabF E.R k v e e2 (q.map fun i => p.getD i 0) rows', rm := E.rm, rv := E.rv, L := mkL E.X (tabF E.R k v e e2 (q.map fun i => p.getD i 0) rows') E.rm, B := E.B, X := E.X }
      have hturn : Turn G E E2 w w' (InT k p) := back_turn hs.wok ht2 hn hp' hw'
      have hself : ∀ x, Rep w' E2 0 x (E.rv k) → True := fun _ _ => trivial
      have own : Rep w' E2 0 (.own k v) (E.rv k) := by
        refine .own ?_ fun _ _ => rfl
        show v ≤ (tabF E.R k v e e2 _ rows' k).ver
        rw [tabF_top]; exact Nat.le_refl _
      have hsim2 : SimE G E2 (s.tabbed k v e e2 (q.map fun i => p.getD i 0) rows') a w' := by
        have := hturn.sim hs (back_rows hs.wok ht2 hn hpo hw' hE' hq fun j _ => ⟨rfl, rfl, rfl⟩)
        have e1 : ({ s with rw := E2.R } : St) = s.tabbed k v e e2 (q.map fun i => p.getD i 0) rows' := by
          show ({ s with rw := tabF E.R k v e e2 _ rows' } : St) = _
          rw [hs.rw]; rfl
        rw [← e1]; exact this
      cases res with
      | self =>
        simp only [TR.ok, TR.next] at hres hk
        subst hres
        rw [giveT_top.2]
        exact hK _ _ _ hk ⟨E2, hsim2.put hd own⟩
      | selfx x =>
        simp only [TR.ok, TR.next] at hres hk
        subst hres
        rw [giveT_top.2]
        refine hK _ _ _ hk ⟨E2, hsim2.put hd ?_⟩
        refine .tup (cells := [.own k v, .v x]) (vs := [E.rv k, x]) rfl fun i a' b' => ?_
        match i, a' with
        | 0, _ => exact own
        | 1, _ => exact .v _
      | rv r =>
        simp only [TR.ok, TR.next] at hres hk
        obtain ⟨hout, hnd⟩ := hres
        cases hdst : o.dst with
        | none => rw [hdst] at hk; exact hK _ _ _ hk ⟨E2, hsim2⟩
        | some d =>
        rw [hdst] at hk
        obtain ⟨hdk, hk⟩ := hk
        have hneq : ∀ j i, InT k p j → j ≠ leafId d i := fun j i hj he => by
          rcases hj with rfl | ⟨x, _, rfl⟩
          · unfold leafId at he; omega
          · rw [sid_eq] at he; unfold leafId at he; omega
        have hDnd : ∀ j, InT k p j → (E.R j).kind.nd = true := fun j hj => by
          rcases hj with rfl | ⟨x, hx, rfl⟩
          · rw [ht2.top]; rfl
          · obtain ⟨i, hi, rfl⟩ := mem_getDN hx
            rw [ht2.row i hi]; rfl
        obtain ⟨a1, a2, a3, a4, a5⟩ := back_adopt (d := d) hs.wok hturn ⟨rfl, rfl, rfl⟩ hDnd hneq hout.leafs hout.links hnd
        have hrows3 : ∀ j, (InT k p j ∨ ∃ i, i < (leaves r).length ∧ j = leafId d i) → RowOk w' (E2.adopt d (leaves r) lv) G.C j := fun j hj => by
          rcases hj with hj | hj
          · exact back_rows hs.wok ht2 hn hpo hw' hE' hq (fun j hj => a4 j hj) j hj
          · exact a2 j hj
        have hsim := a1.sim hs hrows3
        have hER : (E2.adopt d (leaves r) lv).R = addRows (s.tabbed k v e e2 (q.map fun i => p.getD i 0) rows').rw d (leaves r) 0 := by
          rw [addRows_eq]
          show updL E2.R d (rowsOf E2.R d (leaves r) 0) 0 = _
          have : E2.R = (s.tabbed k v e e2 (q.map fun i => p.getD i 0) rows').rw := by
            show tabF E.R k v e e2 _ rows' = tabF s.rw k v e e2 _ rows'
            rw [hs.rw]
          rw [this]
        have hrep : Rep w' (E2.adopt d (leaves r) lv) 0 (adopt2 (fun j => ((s.tabbed k v e e2 (q.map fun i => p.getD i 0) rows').rw j).ver) d r 0) vr := by
          have : (fun j => (E2.R j).ver) = fun j => ((s.tabbed k v e e2 (q.map fun i => p.getD i 0) rows').rw j).ver := by
            show (fun j => (tabF E.R k v e e2 _ rows' j).ver) = fun j => (tabF s.rw k v e e2 _ rows' j).ver
            rw [hs.rw]
          rw [this] at a3
          exact adopt2_rep a5 (by show E.B ≤ w.heap.size; rw [hs.wok.base]; exact hs.wok.kept.size) r vr lv 0 hout a3
        have := hsim.put (d := some d) (by rintro x h; cases h; exact hd d hdst) hrep
        rw [hER] at this
        exact hK _ _ _ hk ⟨_, this⟩
  · exact hk.elim
end
end Go.Abs

/- DERIVED by an AI agent. Tables that grow: append, a slice of one row. No program in sight. -/
namespace Go.Abs
set_option linter.unusedSimpArgs false
set_option linter.unusedVariables false
def newsT (rw : Nat → Row) (y : PV) (K : List PV → Prop) : Prop :=
  match y with
  | .own j v => (rw j).ver = v ∧ (match (rw j).kind with
      | .sli _ sz _ c => sz = 1 ∧ (∀ p ∈ c, isV p = true) ∧ K c
      | .tab _ c => (∀ p ∈ c, oneP rw p) ∧ K c
      | _ => False)
  | _ => False
def appT (T : Tab) (s : St) (d : Nat) (t t2 : TypeId) (k ver e : Nat) (c : List PV) (y : PV) (K : St → Prop) : Prop :=
  t = t2 ∧ 0 < (T t).size ∧ (T t).k = .sli e ∧ (T e).size = 1 ∧ 0 < (T e).bytes ∧ (s.rw k).ver = ver ∧
    newsT s.rw y fun news => (c.length + news.length) * (T e).bytes ≤ 140737488355328 ∧ K (appSt s d k (.tab e (c ++ news)))
def buildT (T : Tab) (s : St) (d : Nat) (t : TypeId) (n i : Nat) (k ver : Nat) (K : St → Prop) : Prop :=
  0 < (T t).size ∧ n = 1 ∧ i = 0 ∧ (s.rw k).ver = ver ∧ (s.rw k).kind.slice = true ∧ d ≠ k ∧ (match (T t).k with
    | .sli e => (T e).size = 1 ∧ K ((s.row d ⟨(s.rw d).ver + 1, .tab e [.own k ver]⟩).put (some d) (.own d ((s.rw d).ver + 1)))
    | _ => False)
section
variable {P : Program} {T : Tab} {G : Ghost} {s : St} {E : Env} {a : Act} {w w' : World} {o : Oper}
theorem cells_of_rep [Held] {lo sz : Nat} {c : List PV} {vs : List Value} {b n cap e : Nat} {rest : List Value} (hh : w.heap[b]? = some (.cells (vs ++ rest).toArray e (0, 0))) : ∀ i u, vs[i]? = some u → ∃ b' o, (some ⟨b, 0, none⟩ : Option Addr) = some ⟨b', o, none⟩ ∧ w.cell? ⟨b', o + i, none⟩ = some u := by
  intro i u hu
  obtain ⟨hi, rfl⟩ := List.getElem?_eq_some_iff.1 hu
  refine ⟨b, 0, rfl, ?_⟩
  rw [Nat.zero_add, cell_of_list hh (by simp; omega)]
  simp [List.getElem_append_left hi]
theorem newsT_sound [Held] {y : PV} {K : List PV → Prop} {x : Value} (hk : newsT E.R y K) (hw : WOk G E w) (hp : Rep w E 0 y x) :
    ∃ news, K news ∧ ∃ ax n cap vs, x = .slice ax n cap ∧ vs.length = n ∧ (∀ u ∈ vs, u.oneCell' = true) ∧ (∀ i u, vs[i]? = some u → ∃ b o, ax = some ⟨b, o, none⟩ ∧ w.cell? ⟨b, o + i, none⟩ = some u) ∧ RepL w E 0 news vs := by
  unfold newsT at hk
  split at hk
  · rename_i j v
    obtain ⟨hv, hk⟩ := hk
    have hrow := hw.rows j
    unfold RowOk at hrow
    cases hp with
    | own _ hx =>
      cases hkd : (E.R j).kind with
      | sli e sz fz c =>
        simp only [hkd] at hk hrow
        obtain ⟨rfl, hone, hk⟩ := hk
        have hx := hx hv (by rw [hkd]; rfl)
        refine ⟨_, hk, ?_⟩
        rcases hrow with ⟨h1, h2, h3⟩ | ⟨b, n, cap, vs, rest, h1, h2, h3, h4, h5, h6, h7, h8, h9⟩
        · exact ⟨none, 0, 0, [], hx.trans h2, rfl, by simp, by simp, by subst h3; exact ⟨rfl, fun i a => absurd a (by simp)⟩⟩
        · refine ⟨_, n, cap, vs, hx.trans h3, by rw [h5, Nat.mul_one], fun u hu => ?_, cells_of_rep (lo := 0) (sz := 0) (c := []) (n := 0) (cap := 0) h4, plain_rep hone h9⟩
          obtain ⟨i, hi, rfl⟩ := List.getElem_of_mem hu
          have hi' : i < c.length := by rw [h9.1]; exact hi
          exact (isV_rep (w' := w) (E' := E) (lo' := 0) (hone _ (List.getElem_mem hi')) (h9.2 i hi' hi)).2
      | tab e c =>
        simp only [hkd] at hk hrow
        obtain ⟨hone, hk⟩ := hk
        have hx := hx hv (by rw [hkd]; rfl)
        refine ⟨_, hk, ?_⟩
        rcases hrow with ⟨h1, h2, h3⟩ | ⟨b, n, cap, vs, rest, h1, h2, h3, h4, h5, h6, h7, h8, h9⟩
        · exact ⟨none, 0, 0, [], hx.trans h2, rfl, by simp, by simp, by subst h3; exact ⟨rfl, fun i a => absurd a (by simp)⟩⟩
        · refine ⟨_, n, cap, vs, hx.trans h3, h5, fun u hu => ?_, cells_of_rep (lo := 0) (sz := 0) (c := []) (n := 0) (cap := 0) h4, h9⟩
          obtain ⟨i, hi, rfl⟩ := List.getElem_of_mem hu
          have hi' : i < c.length := by rw [h9.1]; exact hi
          exact oneP_sound (hone _ (List.getElem_mem hi')) hw (h9.2 i hi' hi)
      | dead => simp only [hkd] at hk
      | nil => simp only [hkd] at hk
      | box t c => simp only [hkd] at hk
  · exact hk.elim
theorem appT_sound [Held] (hT : T.Ok P) {d : Nat} {t t2 : TypeId} {x y : Operand} {k ver e : Nat} {c : List PV} {K : St → Prop} (ho : o.op = .call ⟨.builtin .append, #[x, y], #[t, t2]⟩) (hdst : o.dst = some d) (hd : d < G.n)
    (hev : s.ev x = .own k ver) (hkind : (s.rw k).kind = .tab e c) (hk : appT T s d t t2 k ver e c (s.ev y) K) {a : Act} (hs : Sim G s a w) {K' : Act → World → Prop} {Q : Exit → Act → World → Prop}
    (hK : ∀ s' a' w', K s' → Sim G s' a' w' → K' a' w') : o.wp P a w K' Q := by
  obtain ⟨rfl, ht, hte, he1, hby, hver, hk⟩ := hk
  obtain ⟨E, hs⟩ := hs
  have hR := hs.rw
  rw [← hR] at hk
  obtain ⟨news, ⟨hlen, hk⟩, ax, n, cap, ws, h1, h2, h3, h4, h5⟩ := newsT_sound hk hs.wok (eval_rep hs.slots y)
  have hx := eval_rep hs.slots x
  rw [hev] at hx
  have hkindE : (E.R k).kind = .tab e c := by rw [hR]; exact hkind
  have hslice : (E.R k).kind.slice = true := by rw [hkindE]; rfl
  have hnd := RK.nd_of_slice hslice
  obtain ⟨vs, hphys, hrepc⟩ : ∃ vs, Phys w e (T e).size (E.rm k) (E.rv k) vs ∧ RepL w E 0 c vs := by
    have hrow := hs.wok.rows k
    unfold RowOk at hrow
    simp only [hkindE] at hrow
    rw [he1]
    rcases hrow with ⟨g1, g2, g3⟩ | ⟨b, n, cap, vs, rest, g1, g2, g3, g4, g5, g6, g7, g8, g9⟩
    · subst g3; exact ⟨[], .inl ⟨g1, g2, rfl⟩, ⟨rfl, fun i p => absurd p (by simp)⟩⟩
    · exact ⟨vs, .inr ⟨b, n, cap, rest, g1, g3, g4, by rw [Nat.mul_one]; exact g5, g6, g7, by rw [Nat.mul_one]; exact g8⟩, g9⟩
  have hxe : a.eval x = E.rv k := by cases hx with | own hv hx => exact hx (by rw [hR]; exact hver) hslice
  obtain ⟨v', w', m', hrun, hap⟩ := append_phys (P := P) hT o.type ht hte (by omega) hby hphys (mx := n) (cx := cap) (by rw [h2, he1, Nat.mul_one]) h4 h3 (by rw [← hrepc.1, ← h5.1]; exact hlen)
  rw [← hxe, ← h1] at hrun
  have hver' : (E.R k).ver = (s.rw k).ver := by rw [hR]
  have hturn : OneTurn E w w' k ⟨(s.rw k).ver + 1, .tab e (c ++ news)⟩ m' v' :=
    ⟨fun b hb hne => hap.block b hb fun h => (by
        have := hne h
        rw [hkindE] at this; cases this),
      fun b hb _ => (by
        rcases hap.fresh b hb with h | h
        · exact .inr ⟨h, hnd, fun _ => by rw [hkindE]; rfl⟩
        · exact .inl h),
      by rw [hver']; exact Nat.le_succ _, fun h => by rw [hver'] at h; simp at h, fun h => by rw [hver'] at h; simp at h, fun _ => Nat.succ_pos _, hap.size, hap.os, hap.tape, hap.output⟩
  refine eff_turn (fz := []) (p := .own k ((s.rw k).ver + 1)) hs (run_call_append ho hrun) hturn (by simp) (fun hl => ?_) ?_ (by simp [hdst, hd]) (fun a' w' h => hK _ a' w' hk ?_)
  · unfold RowOk
    simp only [Env.turn, updF_same]
    have hrep : RepL w' (E.turn [] k ⟨(s.rw k).ver + 1, .tab e (c ++ news)⟩ m' v') 0 (c ++ news) (vs ++ ws) := (hrepc.mono hl (Nat.le_refl _)).append (h5.mono hl (Nat.le_refl _))
    rcases hap.phys with ⟨q1, q2, q3⟩ | ⟨b, n, cap, rest, q1, q2, q3, q4, q5, q6, q7⟩
    · refine .inl ⟨q1, q2, ?_⟩
      have := hrep.1
      rw [q3] at this
      exact List.eq_nil_of_length_eq_zero this
    · rw [he1, Nat.mul_one] at q4 q7
      refine .inr ⟨b, n, cap, vs ++ ws, rest, q1, ?_, q2, q3, q4, q5, q6, q7, hrep⟩
      rcases hap.fresh b q1 with hf | hf
      · exact (hs.wok.block hf hnd).2
      · exact .inl (Nat.le_trans hs.wok.kept.size hf)
  · exact .own (by simp [Env.turn, updF_same]) fun _ _ => by simp [Env.turn, updF_same]
  · rw [St.freeze_nil, hdst] at h; exact h
theorem buildT_sound [Held] (hT : T.Ok P) {d : Nat} {t : TypeId} {n i : Nat} {x : Operand} {k ver : Nat} {K : St → Prop} (ho : o.op = .buildSlice t n #[(i, x)]) (hdst : o.dst = some d) (hd : d < G.n)
    (hev : s.ev x = .own k ver) (hk : buildT T s d t n i k ver K) {a : Act} (hs : Sim G s a w) {K' : Act → World → Prop} {Q : Exit → Act → World → Prop}
    (hK : ∀ s' a' w', K s' → Sim G s' a' w' → K' a' w') : o.wp P a w K' Q := by
  obtain ⟨ht, rfl, rfl, hver, hsl, hdk, hk⟩ := hk
  split at hk
  · rename_i e hte
    obtain ⟨he1, hk⟩ := hk
    have hu : P.underlying t = some (.slice e) := by have := (hT t ht).k; rw [hte] at this; exact this
    obtain ⟨ii, zz, hi, hsz, hby, hz', hzl⟩ := (hT e (by omega)).info
    have hzs : zz.cells.size = 1 := by rw [← Array.length_toList, hzl, (hT e (by omega)).zlen, he1]
    obtain ⟨E, hs⟩ := hs
    have hx := eval_rep hs.slots x
    rw [hev] at hx
    have hslE : (E.R k).kind.slice = true := by rw [hs.rw]; exact hsl
    have hxe : a.eval x = E.rv k := by cases hx with | own hv hx => exact hx (by rw [hs.rw]; exact hver) hslE
    obtain ⟨ad, nn, cc, hsv⟩ := slice_row hs.wok hslE
    have h1 : (a.eval x).oneCell' = true := by rw [hxe, hsv]; rfl
    have hc1 := cells_of_one h1
    have hrun : (execOp a.eval o).run P w = .ok (.value (.slice (some ⟨w.heap.size, 0, none⟩) 1 1)) (w.alloc (.cells [a.eval x].toArray e)) := by
      have hsz1 : ii.size = 1 := by rw [hsz, he1]
      simp [execOp, ho, Instr.buildSlice, run_underlying hu, sizeOf, typeInfo, zeroValue, hi, hz', hsz1, newRow, Instr.fill, hc1]
      congr 2
      refine Array.ext (by simp) fun j p q => ?_
      have hj : j = 0 := by simp at q; omega
      subst hj
      simp
    have hturn : OneTurn E w (w.alloc (.cells ([a.eval x] ++ []).toArray e)) d ⟨(s.rw d).ver + 1, .tab e [.own k ver]⟩ (some w.heap.size) (.slice (some ⟨w.heap.size, 0, none⟩) 1 1) :=
      ⟨fun b hb _ => (Ext.alloc w _).block b hb, fun b hb _ => .inl (by simp at hb; omega), by rw [hs.rw]; exact Nat.le_succ _, fun h => by rw [hs.rw] at h; simp at h, fun h => by rw [hs.rw] at h; simp at h, fun _ => Nat.succ_pos _, by simp, rfl, rfl, ⟨rfl, fun _ => by first | exact Nat.le_refl _ | exact Nat.le_succ _⟩⟩
    rw [← List.append_nil [a.eval x]] at hrun
    refine eff_turn (fz := []) (p := .own d ((s.rw d).ver + 1)) hs hrun hturn (by simp) (fun hl => ?_) ?_ (by simp [hdst, hd]) (fun a' w' h => hK _ a' w' hk (by rw [hdst, St.freeze_nil] at h; exact h))
    · unfold RowOk
      simp only [Env.turn, updF_same]
      refine .inr ⟨w.heap.size, 1, 1, [a.eval x], [], rfl, .inl hs.wok.kept.size, rfl, heap_alloc_new w _, rfl, Nat.le_refl _, by simp [maxLen], rfl, ?_⟩
      refine ⟨rfl, fun j p q => ?_⟩
      have hj : j = 0 := by simp at p; omega
      subst hj
      simp only [List.getElem_cons_zero]
      have := hx.mono hl (Nat.le_refl 0)
      simpa [Env.turn] using this
    · exact .own (by simp [Env.turn, updF_same]) fun _ _ => by simp [Env.turn, updF_same]
  · exact hk.elim
end
end Go.Abs
