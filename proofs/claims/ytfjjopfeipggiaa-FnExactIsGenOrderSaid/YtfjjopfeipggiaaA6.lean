/- DERIVED by an AI agent. The model yields what the operations that compute or read are said to yield: cuts, conversions; all of them together. No program in sight. -/
import Derived.Test.YtfjjopfeipggiaaA5
namespace Go.Abs
set_option linter.unusedSimpArgs false
section
variable {P : Program} {T : Tab} {w : World} {E : Env} {G : Ghost} {rw : Nat → Row} {K : PV → Prop} {s : St}

theorem bnd_sound {ev : Operand → PV} {o : Option Operand} {d : Int} {Ki : Int → Prop} {a : Act} (hk : bndK ev o d Ki) (h : ∀ x, o = some x → Rep w E 0 (ev x) (a.eval x)) :
    ∃ n, Ki n ∧ ((o = none ∧ n = d) ∨ ∃ k, o.map a.eval = some (.int k n)) := by
  unfold bndK at hk
  split at hk
  · exact ⟨_, hk, .inl ⟨rfl, rfl⟩⟩
  · rename_i x
    have hx := h x rfl
    split at hk
    · rename_i k n he
      rw [he] at hx
      exact ⟨_, hk, .inr ⟨k, by simp [hx.v_eq]⟩⟩
    · exact hk.elim

theorem slFz_sound {p : PV} {Ks : Bool → Nat → List PV → Prop} {x : Value} (hk : slFzK rw p Ks) (hR : E.R = rw) (hw : WOk G E w) (hp : Rep w E 0 p x) :
    ∃ fr sz cells, Ks fr sz cells ∧ Rep w E 0 (.sl fr sz cells) x := by
  subst hR
  unfold slFzK at hk
  split at hk
  · exact ⟨_, _, _, hk, hp⟩
  · rename_i k ver
    obtain ⟨hlk, hv, hk⟩ := hk
    split at hk
    · rename_i e sz c hkind
      refine ⟨_, _, _, hk, ?_⟩
      cases hp with
      | own _ hx =>
        have hx := hx hv (by rw [hkind]; rfl)
        have hrow := hw.rows k
        unfold RowOk at hrow
        simp only [hkind] at hrow
        rcases hrow with ⟨h1, h2, h3⟩ | ⟨b, n, cap, vs, rest, h1, h2, h3, h4, h5, h6, h7, h8, h9⟩
        · subst h3; rw [hx, h2]
          exact .sl (fun _ => undef) (by simp) (Nat.le_refl _) (Nat.zero_le _) (fun i hi => absurd hi (by simp)) (fun i hi => absurd hi (by simp))
        · rw [hx, h3]
          have hB : E.B ≤ b := by
            rw [hw.base]
            rcases h2 with h2 | h2
            · exact h2
            · exact absurd h2.1 (by omega)
          have hL : ¬ E.L b := fun hL => by
            obtain ⟨k', hk1, hk2⟩ := (hw.live b).1 hL
            have := hw.inj k k' b (by rw [hkind]; rfl) (RK.nd_of_live hk2) h1 hk1
            subst this
            rw [hkind] at hk2; cases hk2
          refine .sl (fun i => vs.getD i undef) (h9.1.trans h5) h6 h7 (fun i hi => ⟨b, 0, rfl, by simpa [Env.lo] using hB, hL, ?_⟩) (fun i hi => ?_)
          · have hi' : i < vs.length := by rw [← h9.1]; exact hi
            rw [Nat.zero_add, cell_of_list h4 (by simp; omega)]
            simp [List.getElem_append_left hi', List.getD, hi']
          · have hi' : i < vs.length := by rw [← h9.1]; exact hi
            have e : vs.getD i undef = vs[i] := by simp [List.getD, hi']
            rw [e]
            exact (h9.2 i hi hi').low (by simp [Env.lo])
    · exact hk.elim
  · exact hk.elim

theorem sl_cut {fr : Bool} {sz : Nat} {c : List PV} {a : Option Addr} {len cap l h m : Nat} (hp : Rep w E 0 (.sl fr sz c) (.slice a len cap)) (h1 : l ≤ h) (h2 : h ≤ m) (h3 : m ≤ cap) (h4 : h ≤ len) :
    Rep w E 0 (.sl fr sz ((c.take (h * sz)).drop (l * sz))) (.slice (if m = l then a else a.map (·.add (l * sz))) (h - l) (m - l)) := by
  cases hp with
  | @sl _ _ _ _ _ _ _ _ cs hl hc hm hr hh =>
    have hle : h * sz ≤ c.length := by rw [hl]; exact Nat.mul_le_mul_right _ h4
    have hlen : ((c.take (h * sz)).drop (l * sz)).length = (h - l) * sz := by
      simp [Nat.sub_mul]; omega
    have hll : l * sz ≤ h * sz := Nat.mul_le_mul_right _ h1
    refine .sl (fun i => cs (l * sz + i)) hlen (by omega) (by omega) (fun i hi => ?_) (fun i hi => ?_)
    · rw [hlen, Nat.sub_mul] at hi
      obtain ⟨b, o, ha, hb, hL, hcell⟩ := hr (l * sz + i) (by omega)
      have hne : m ≠ l := by
        intro e; subst e
        have : h = m := by omega
        subst this
        simp at hi
      rw [if_neg hne, ha]
      exact ⟨b, o + l * sz, by simp [add_addr], hb, hL, by rw [Nat.add_assoc]; exact hcell⟩
    · have hi' : l * sz + i < c.length := by rw [hlen, Nat.sub_mul] at hi; omega
      have := hh (l * sz + i) hi'
      simpa using this

theorem slice_sound (hT : T.Ok P) (hw : WOk G E w) {ev : Operand → PV} {a : Act} {t : TypeId} {p : PV} {x : Value} {lo hi mx : Option Operand} (hk : sliceK T rw ev t p lo hi mx K) (hR : E.R = rw)
    (hp : Rep w E 0 p x) (hlo : ∀ y, lo = some y → Rep w E 0 (ev y) (a.eval y)) (hhi : ∀ y, hi = some y → Rep w E 0 (ev y) (a.eval y)) (hmx : ∀ y, mx = some y → Rep w E 0 (ev y) (a.eval y)) :
    ∃ r, K r ∧ ∃ v, (Instr.sliceAt t x (lo.map a.eval) (hi.map a.eval) (mx.map a.eval)).run P w = .ok v w ∧ Rep w E 0 r v := by
  obtain ⟨hs, hk⟩ := hk
  have hf := (hT t hs).k
  split at hk
  · rename_i he
    rw [he] at hf
    have hu : P.underlying t = some .string := hf
    obtain ⟨rfl, hk⟩ := hk
    split at hk
    · rename_i b
      have := hp.v_eq; subst this
      obtain ⟨l, hk, hl⟩ := bnd_sound hk hlo
      obtain ⟨h, hk, hh⟩ := bnd_sound hk hhi
      obtain ⟨h0, h1, h2, hk⟩ := hk
      refine ⟨_, hk, _, ?_, .v _⟩
      have e1 : (Instr.sliceBounds false b.size b.size (lo.map a.eval) (hi.map a.eval) none).run P w = .ok (l.toNat, h.toNat, b.size) w := by
        have e0 : ((h.toNat : Nat) : Int) = h := by omega
        rcases hl with ⟨rfl, rfl⟩ | ⟨kl, el⟩ <;> rcases hh with ⟨rfl, rfl⟩ | ⟨kh, eh⟩
        · simp [Instr.sliceBounds]
        · simp [Instr.sliceBounds, eh, run_sliceBound, h1, h2]
        · simp [Instr.sliceBounds, el, run_sliceBound, h0, h1]
        · simp [Instr.sliceBounds, el, eh, run_sliceBound, h0, h1, h2, e0, (by omega : 0 ≤ h)]
      simp [Instr.sliceAt, run_underlying hu, Instr.slice, e1]
    · exact hk.elim
  · rename_i e he
    rw [he] at hf
    have hu : P.underlying t = some (.slice e) := hf
    obtain ⟨fr, sz, c, ⟨hes, hsz, hk⟩, hp⟩ := slFz_sound hk hR hw hp
    have hsize := run_sizeOf_of (hT e hes) w
    rw [← hsz] at hsize
    obtain ⟨l, hk, hl⟩ := bnd_sound hk hlo
    obtain ⟨h, hk, hh⟩ := bnd_sound hk hhi
    obtain ⟨m, hk, hm⟩ := bnd_sound hk hmx
    obtain ⟨h0, h1, h2, h3, h4, hk⟩ := hk
    have hp' := hp
    cases hp with
    | @sl _ _ _ _ len cap _ ad cs hcl hc hmm hr hcells =>
      have hdiv : c.length / sz = len := by rw [hcl]; exact Nat.mul_div_cancel _ (by omega)
      rw [hdiv] at hh hm h3
      -- the third bound as the model has it
      obtain ⟨mm, hmm1, hmm2, e1⟩ : ∃ mm : Nat, h.toNat ≤ mm ∧ mm ≤ cap ∧ (Instr.sliceBounds true len cap (lo.map a.eval) (hi.map a.eval) (mx.map a.eval)).run P w = .ok (l.toNat, h.toNat, mm) w := by
        have e0 : ((h.toNat : Nat) : Int) = h := by omega
        have em : ((m.toNat : Nat) : Int) = m := by omega
        have hcap : h ≤ (cap : Int) := by omega
        have hmcap : m ≤ (cap : Int) := by omega
        rcases hm with ⟨rfl, rfl⟩ | ⟨km, em'⟩
        · refine ⟨cap, by omega, Nat.le_refl _, ?_⟩
          rcases hl with ⟨rfl, rfl⟩ | ⟨kl, el⟩ <;> rcases hh with ⟨rfl, rfl⟩ | ⟨kh, eh⟩
          · simp [Instr.sliceBounds]
          · simp [Instr.sliceBounds, eh, run_sliceBound, h1, hcap]
          · simp [Instr.sliceBounds, el, run_sliceBound, h0, h1]
          · simp [Instr.sliceBounds, el, eh, run_sliceBound, h0, h1, hcap, e0, (by omega : 0 ≤ h)]
        · refine ⟨m.toNat, by omega, by omega, ?_⟩
          rcases hh with ⟨rfl, rfl⟩ | ⟨kh, eh⟩
          · have := h4 rfl
            subst this
            simp at em'
          · rcases hl with ⟨rfl, rfl⟩ | ⟨kl, el⟩
            · simp [Instr.sliceBounds, eh, em', run_sliceBound, h1, hmcap, h2, em, e0, (by omega : 0 ≤ h), (by omega : 0 ≤ m)]
            · simp [Instr.sliceBounds, el, eh, em', run_sliceBound, h0, h1, hmcap, h2, em, e0, (by omega : 0 ≤ h), (by omega : 0 ≤ m)]
      refine ⟨_, hk, _, ?_, sl_cut hp' (l := l.toNat) (h := h.toNat) (m := mm) (by omega) hmm1 hmm2 (by omega)⟩
      simp [Instr.sliceAt, run_underlying hu, Instr.slice, e1, hsize]
  · exact hk.elim

theorem conv_sound (hT : T.Ok P) (hw : WOk G E w) {src dst : TypeId} {p : PV} {x : Value} (hk : convK T rw src dst p K) (hR : E.R = rw) (hp : Rep w E 0 p x) :
    ∃ r, K r ∧ ∃ v, (convert src dst x).run P w = .ok v w ∧ Rep w E 0 r v := by
  obtain ⟨hs, hd, hk⟩ := hk
  have hfs := (hT src hs).k
  have hfd := (hT dst hd).k
  split at hk
  · rename_i k1 k2 e1 e2
    rw [e1] at hfs; rw [e2] at hfd
    have hus : P.underlying src = some (.int k1) := hfs
    have hud : P.underlying dst = some (.int k2) := hfd
    split at hk
    · have := hp.v_eq; subst this
      exact ⟨_, hk, _, by simp [convert, run_underlying hus, run_underlying hud, Conv.intToInt], .v _⟩
    · exact hk.elim
  · rename_i e1 e2
    rw [e1] at hfs; rw [e2] at hfd
    have hus : P.underlying src = some .string := hfs
    have hud : P.underlying dst = some .string := hfd
    split at hk
    · have := hp.v_eq; subst this
      exact ⟨_, hk, _, by simp [convert, run_underlying hus, run_underlying hud], .v _⟩
    · exact hk.elim
  · rename_i e e1 e2
    rw [e1] at hfs; rw [e2] at hfd
    have hus : P.underlying src = some (.slice e) := hfs
    have hud : P.underlying dst = some .string := hfd
    obtain ⟨hes, hk⟩ := hk
    have hfe := (hT e hes).k
    split at hk
    · rename_i e3
      rw [e3] at hfe
      have hue : P.underlying e = some (.int .u8) := hfe
      obtain ⟨fr, sz, c, ⟨rfl, bs, rfl, hk⟩, a, len, cap, cs, rfl, hl, hc, hm, hcell⟩ := slK_sound hk hR hw hp
      refine ⟨_, hk, _, ?_, .v _⟩
      rw [run_convert_bytes_string w src dst e a len cap hus hue hud]
      have hlen : len = bs.length := by simpa using hl.symm
      subst hlen
      by_cases h0 : bs = []
      · subst h0
        cases a with
        | none => simp [Conv.bytesToString]
        | some ad =>
          have := run_bytesToString (P := P) w ad 0 cap [] (by simp [loadCells, loadCellsFrom])
          simpa using this
      · obtain ⟨b, o, rfl, _, _⟩ := hcell 0 (by simp; exact List.length_pos_iff.2 h0)
        refine run_bytesToString (P := P) w ⟨b, o, none⟩ bs.length cap bs ?_
        have := run_loadCells_list (P := P) (w := w) ⟨b, o, none⟩ (bs.map (Value.int .u8)) (fun j v hj => by
          simp only [List.getElem?_map, Option.map_eq_some_iff] at hj
          obtain ⟨n, hj, rfl⟩ := hj
          obtain ⟨hlt, he⟩ := List.getElem?_eq_some_iff.1 hj
          obtain ⟨b', o', ha, hc', hr⟩ := hcell j (by simpa using hlt)
          injection ha with ha
          injection ha with ha hb
          subst ha; subst hb
          simp at hr
          rw [add_addr, hc', hr.v_eq, he])
        simpa using this
    · exact hk.elim
  · exact hk.elim

end
end Go.Abs
