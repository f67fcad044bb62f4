/- DERIVED by an AI agent. Append; new variables; new slices. No program in sight. -/
import Derived.Test.YtfjjopfeipggiaaA14
namespace Go.Abs
set_option linter.unusedSimpArgs false

section
variable {P : Program} {T : Tab} {G : Ghost} {s : St} {E : Env} {a : Act} {w w' : World} {o : Oper}

theorem run_call_append {t t2 : TypeId} {x y : Operand} (ho : o.op = .call ⟨.builtin .append, #[x, y], #[t, t2]⟩) {v : Value} (h : (Builtin.append_ #[t, t2] o.type #[a.eval x, a.eval y]).run P w = .ok v w') :
    (execOp a.eval o).run P w = .ok (.value v) w' := by
  simp [execOp, ho, resolve, invoke, builtin, h]

/-- A row that append has made. -/
theorem appended_row {k : Nat} {e sz : Nat} {c : List PV} {m m' : Option Nat} {v' : Value} {vs : List Value} {fz : Bool} (hap : Appended w w' e sz m m' v' vs) (hw : WOk G E w) (hm : m = E.rm k) (hC : ∀ b, E.rm k = some b → (E.R k).kind.nd = true → G.C k b)
    (hnd : m ≠ none → (E.R k).kind.nd = true)
    {E' : Env} (h1 : E'.rm k = m') (h2 : E'.rv k = v') (h3 : (E'.R k).kind = .sli e sz fz c) (hrep : RepL w' E'.bare E'.B c vs) : RowOk w' E' G.C k := by
  unfold RowOk
  simp only [h3]
  rcases hap.phys with ⟨q1, q2, q3⟩ | ⟨b, n, cap, rest, q1, q2, q3, q4, q5, q6, q7⟩
  · refine .inl ⟨h1.trans q1, h2.trans q2, ?_⟩
    subst q3
    exact List.eq_nil_of_length_eq_zero hrep.1
  · refine .inr ⟨b, n, cap, vs, rest, h1.trans q1, ?_, h2.trans q2, q3, q4, q5, q6, q7, hrep⟩
    rcases hap.fresh b q1 with hf | hf
    · exact hC b (hm ▸ hf) (hnd (by rw [hf]; simp))
    · exact .inl (Nat.le_trans hw.kept.size hf)

theorem slAt_cells {E0 : Env} {lo sz : Nat} {c : List PV} {x : Value} (h : SlAt w E0 lo sz c x) : ∃ ax n cap vs, x = .slice ax n cap ∧ vs.length = n * sz ∧ RepL w E0.bare lo c vs ∧
    (∀ i u, vs[i]? = some u → ∃ b o, ax = some ⟨b, o, none⟩ ∧ w.cell? ⟨b, o + i, none⟩ = some u) := by
  obtain ⟨ax, n, cap, cs, rfl, hl, _, _, hc⟩ := h
  refine ⟨ax, n, cap, (List.range c.length).map cs, rfl, by simpa using hl, ⟨by simp, fun i p q => ?_⟩, fun i u hu => ?_⟩
  · obtain ⟨_, _, _, _, hr⟩ := hc i p
    simpa using hr
  · simp only [List.getElem?_map, Option.map_eq_some_iff] at hu
    obtain ⟨j, hj, rfl⟩ := hu
    obtain ⟨hlt, he⟩ := List.getElem?_eq_some_iff.1 hj
    have hi : i < c.length := by simpa using hlt
    obtain rfl : i = j := by simpa using he
    obtain ⟨b, o, ha, hcell, _⟩ := hc i hi
    exact ⟨b, o, ha, hcell⟩

theorem oneQ_rep {lo : Nat} {p : PV} {x : Value} (h : oneQ p = true) (hp : Rep w E lo p x) : x.oneCell' = true := by
  cases p <;> simp [oneQ] at h
  · rw [hp.v_eq]; exact h
  all_goals (cases hp; rfl)

theorem src_sound {y : PV} {fr : Bool} {sz : Nat} {news : List PV} {x : Value} (hs : slK s.rw y (fun a b c => a = fr ∧ b = sz ∧ c = news)) (hR : E.R = s.rw) (hw : WOk G E w) (hp : Rep w E 0 y x)
    (hone : (∀ p ∈ news, isV p = true) ∨ (fr = true ∧ ∀ p ∈ news, oneQ p = true)) :
    ∃ ax n cap vs, x = .slice ax n cap ∧ vs.length = n * sz ∧ (∀ u ∈ vs, u.oneCell' = true) ∧ (∀ i u, vs[i]? = some u → ∃ b o, ax = some ⟨b, o, none⟩ ∧ w.cell? ⟨b, o + i, none⟩ = some u) ∧
      RepL w E.bare E.B news vs := by
  obtain ⟨fr', sz', news', ⟨e1, e2, e3⟩, hat⟩ := slK_sound hs hR hw hp
  rw [e1, e2, e3] at hat
  obtain ⟨ax, n, cap, vs, h1, h2, h3, h4⟩ := slAt_cells hat
  have hq : ∀ p ∈ news, oneQ p = true := by
    rcases hone with h | h
    · intro p hp
      have := h p hp
      cases p <;> simp [isV, oneQ] at this ⊢
      exact this
    · exact h.2
  refine ⟨ax, n, cap, vs, h1, h2, fun u hu => ?_, h4, ?_⟩
  · obtain ⟨i, hi, rfl⟩ := List.getElem_of_mem hu
    have hi' : i < news.length := by rw [h3.1]; exact hi
    exact oneQ_rep (hq _ (List.getElem_mem hi')) (h3.2 i hi' hi)
  · rcases hone with h | ⟨rfl, _⟩
    · exact ⟨h3.1, fun i p q => (isV_rep (h _ (List.getElem_mem p)) (h3.2 i p q)).1⟩
    · exact ⟨h3.1, fun i p q => (h3.2 i p q).low (by simp [Env.lo])⟩

theorem append_sound (hT : T.Ok P) {d : Nat} {t t2 : TypeId} {x y : Operand} {K : St → Prop} (ho : o.op = .call ⟨.builtin .append, #[x, y], #[t, t2]⟩) (hdst : o.dst = some d) (hd : d < G.n)
    (hk : appendK T s d t t2 (s.ev x) (s.ev y) K) : ∃ s', K s' ∧ Effects P G s o s' := by
  obtain ⟨rfl, ht, hk⟩ := hk
  split at hk
  · rename_i e hte
    obtain ⟨he, hby, hk⟩ := hk
    obtain ⟨fr, sz, news, ⟨rfl, hfr, hk⟩, hdet⟩ := slK_det hk
    have hsrc := hdet (fun a b c => a = fr ∧ b = (T e).size ∧ c = news) ⟨rfl, rfl, rfl⟩
    split at hk
    · -- onto nil
      rename_i u hev
      obtain ⟨hnil, hlen, hk⟩ := hk
      refine ⟨_, hk, fun a w hs K' Q hK => ?_⟩
      obtain ⟨E, hs⟩ := hs
      have hx := eval_rep hs.slots x
      rw [hev] at hx
      have hxe := hx.v_eq
      rw [isNil_eq hnil] at hxe
      obtain ⟨ax, n, cap, vs, h1, h2, h3, h4, h5⟩ := src_sound hsrc hs.rw hs.wok (eval_rep hs.slots y) hfr
      obtain ⟨v', w', m', hrun, hap⟩ := append_phys (P := P) hT (vs := []) (m := none) (v := .slice none 0 0) o.type ht hte he hby (.inl ⟨rfl, rfl, rfl⟩) h2 h4 h3 (by rw [← h5.1]; simpa using hlen)
      rw [← hxe, ← h1] at hrun
      have hx' : Ext w w' := ⟨hap.os, hap.tape, hap.output, hap.size, fun b hb => hap.block b hb (by simp)⟩
      have hm' : ∀ b, m' = some b → w.heap.size ≤ b := fun b hb => (hap.fresh b hb).resolve_left (by simp)
      have htn := turn_new (G := G) (E := E) (k := d) (kd := .sli e (T e).size false news) (m := m') (v := v') hx' hm'
      refine eff_value (E' := E.row d _ _ _) (p := .own d ((s.rw d).ver + 1)) hs (run_call_append ho hrun) htn (fun k hk' => ?_) ?_ (by simp [hdst, hd]) (fun a' w' h => hK a' w' ?_)
      · subst hk'
        unfold RowOk
        simp only [Env.row, updF_same]
        have hrep := h5.mono (htn.lasts hs.wok).bare (Nat.le_refl _)
        rcases hap.phys with ⟨q1, q2, q3⟩ | ⟨b, n, cap, rest, q1, q2, q3, q4, q5, q6, q7⟩
        · refine .inl ⟨q1, q2, ?_⟩
          simp at q3
          subst q3
          exact List.eq_nil_of_length_eq_zero h5.1
        · exact .inr ⟨b, n, cap, vs, rest, q1, .inl (Nat.le_trans hs.wok.kept.size (hm' b q1)), q2, by simpa using q3, by simpa using q4, q5, q6, by simpa using q7, hrep⟩
      · exact .own (by simp [Env.row, updF_same, hs.rw]) fun _ _ => by simp [Env.row, updF_same]
      · have e' : (E.row d ⟨(E.R d).ver + 1, .sli e (T e).size false news⟩ m' v').R = (s.row d ⟨(s.rw d).ver + 1, .sli e (T e).size false news⟩).rw := by
          simp only [Env.row, hs.rw]; rfl
        rw [e', hdst] at h
        exact h
    · -- onto a row of the call's own
      rename_i k ver hev
      obtain ⟨hver, hk⟩ := hk
      have main : ∀ (c : List PV), ((s.rw k).kind = .nil ∧ c = [] ∨ (s.rw k).kind = .sli e (T e).size false c) → (c.length + news.length) * (T e).bytes ≤ 140737488355328 → K (appSt s d k (.sli e (T e).size false (c ++ news))) →
          ∃ s', K s' ∧ Effects P G s o s' := by
        intro c hkind hlen hk
        refine ⟨_, hk, fun a w hs K' Q hK => ?_⟩
        obtain ⟨E, hs⟩ := hs
        have hR := hs.rw
        have hx := eval_rep hs.slots x
        rw [hev] at hx
        obtain ⟨ax, n, cap, ws, h1, h2, h3, h4, h5⟩ := src_sound hsrc hs.rw hs.wok (eval_rep hs.slots y) hfr
        have hslice : (E.R k).kind.slice = true := by rw [hR]; rcases hkind with ⟨h, _⟩ | h <;> rw [h] <;> rfl
        have hnd := RK.nd_of_slice hslice
        obtain ⟨vs, hphys, hrepc⟩ : ∃ vs, Phys w e (T e).size (E.rm k) (E.rv k) vs ∧ RepL w E.bare E.B c vs := by
          have hrow := hs.wok.rows k
          unfold RowOk at hrow
          rw [hR] at hrow
          rcases hkind with ⟨h, rfl⟩ | h
          · simp only [h] at hrow
            exact ⟨[], .inl ⟨hrow.1, hrow.2, rfl⟩, ⟨rfl, fun i p => absurd p (by simp)⟩⟩
          · simp only [h] at hrow
            rcases hrow with ⟨g1, g2, g3⟩ | ⟨b, n, cap, vs, rest, g1, g2, g3, g4, g5, g6, g7, g8, g9⟩
            · subst g3; exact ⟨[], .inl ⟨g1, g2, rfl⟩, ⟨rfl, fun i p => absurd p (by simp)⟩⟩
            · exact ⟨vs, .inr ⟨b, n, cap, rest, g1, g3, g4, g5, g6, g7, g8⟩, g9⟩
        have hxe : a.eval x = E.rv k := by cases hx with | own hv hx => exact hx (by rw [hR]; exact hver) hslice
        obtain ⟨v', w', m', hrun, hap⟩ := append_phys (P := P) hT o.type ht hte he hby hphys h2 h4 h3 (by rw [← hrepc.1, ← h5.1]; exact hlen)
        rw [← hxe, ← h1] at hrun
        have hver' : (E.R k).ver = (s.rw k).ver := by rw [hR]
        have hlive : (E.R k).kind.live = false → E.rm k = none := fun hl => by
          have hrow := hs.wok.rows k
          unfold RowOk at hrow
          rw [hR] at hrow hl
          rcases hkind with ⟨h, _⟩ | h
          · simp only [h] at hrow; exact hrow.1
          · rw [h] at hl; cases hl
        have hturn : OneTurn E w w' k ⟨(s.rw k).ver + 1, .sli e (T e).size false (c ++ news)⟩ m' v' :=
          ⟨fun b hb hne => hap.block b hb fun h => (by
              have := hlive (hne h)
              rw [this] at h; cases h),
            fun b hb _ => (by
              rcases hap.fresh b hb with h | h
              · refine .inr ⟨h, hnd, fun _ => ?_⟩
                cases hl : (E.R k).kind.live with
                | true => rfl
                | false => rw [hlive hl] at h; cases h
              · exact .inl h),
            by rw [hver']; exact Nat.le_succ _, fun h => by rw [hver'] at h; simp at h, fun h => by rw [hver'] at h; simp at h, fun _ => Nat.succ_pos _, hap.size, hap.os, hap.tape, hap.output⟩
        refine eff_turn (fz := []) (p := .own k ((s.rw k).ver + 1)) hs (run_call_append ho hrun) hturn (by simp) (fun hl => ?_) ?_ (by simp [hdst, hd]) (fun a' w' h => hK a' w' ?_)
        · refine appended_row (fz := false) (c := c ++ news) hap hs.wok rfl (fun b hb hn => (hs.wok.block hb hn).2) (fun _ => hnd) (by simp [Env.turn, updF_same]) (by simp [Env.turn, updF_same]) (by simp [Env.turn, updF_same]) ?_
          exact (hrepc.mono hl.bare (Nat.le_refl _)).append (h5.mono hl.bare (Nat.le_refl _))
        · exact .own (by simp [Env.turn, updF_same]) fun _ _ => by simp [Env.turn, updF_same]
        · rw [St.freeze_nil, hdst] at h; exact h
      split at hk
      · rename_i hkind
        exact main [] (.inl ⟨hkind, rfl⟩) (by simpa using hk.1) (by simpa using hk.2)
      · rename_i e' sz' c hkind
        obtain ⟨rfl, rfl, hlen, hk⟩ := hk
        exact main c (.inr hkind) hlen hk
      · exact hk.elim
    · exact hk.elim
  · exact hk.elim

end
end Go.Abs
