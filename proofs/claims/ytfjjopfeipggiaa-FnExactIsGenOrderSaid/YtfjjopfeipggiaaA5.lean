/- DERIVED by an AI agent. The model yields what the operations that compute or read are said to yield. No program in sight. -/
import Derived.Test.YtfjjopfeipggiaaA4
namespace Go.Abs
set_option linter.unusedSimpArgs false

section
variable {P : Program} {T : Tab} {w : World} {E : Env} {G : Ghost} {rw : Nat → Row} {K : PV → Prop}

theorem bin_sound (hT : T.Ok P) {op : BinOp} {t : TypeId} {x y : Operand} {p q : PV} {a b : Value} (hk : binK T op t p q K) (hp : Rep w E 0 p a) (hq : Rep w E 0 q b) :
    ∃ r, K r ∧ ∃ v, (do eqGuard op t x y a b; binOp op t a b : Sem Value).run P w = .ok v w ∧ Rep w E 0 r v := by
  unfold binK at hk
  split at hk
  · obtain ⟨hc, hk⟩ := hk
    have := hp.v_eq; subst this
    have := hq.v_eq; subst this
    refine ⟨_, hk, _, ?_, .v _⟩
    rw [Sem.run_bind, run_eqGuard_int]
    simp only [Result.andThen_ok]
    exact run_binInt w _ _ _ _ _ _ hc
  · obtain ⟨hc, hk⟩ := hk
    have := hp.v_eq; subst this
    have := hq.v_eq; subst this
    split at hk
    · rename_i r hr
      refine ⟨_, hk, _, ?_, .v _⟩
      rw [Sem.run_bind, run_eqGuard_string]
      simp only [Result.andThen_ok]
      exact run_binStr w _ _ _ _ _ hc hr
    · exact hk.elim
  · obtain ⟨hb, hs, hk⟩ := hk
    have := hp.v_eq; subst this
    have := hq.v_eq; subst this
    have hf := (hT t hs).k
    rw [hb] at hf
    split at hk
    · refine ⟨_, hk, _, ?_, .v _⟩
      rw [Sem.run_bind, run_eqGuard_bool]
      simp [binOp, run_equal_bool w t _ _ hf]
    · refine ⟨_, hk, _, ?_, .v _⟩
      rw [Sem.run_bind, run_eqGuard_bool]
      simp [binOp, run_equal_bool w t _ _ hf]
    · exact hk.elim
  · exact hk.elim

theorem un_sound {op : UnOp} {p : PV} {a : Value} (hk : unK op p K) (hp : Rep w E 0 p a) : ∃ r, K r ∧ ∃ v, (Op.unary op a).run P w = .ok v w ∧ Rep w E 0 r v := by
  unfold unK at hk
  split at hk
  · have := hp.v_eq; subst this; exact ⟨_, hk, _, by simp [Op.unary], .v _⟩
  · have := hp.v_eq; subst this; exact ⟨_, hk, _, by simp [Op.unary, Op.intArith], .v _⟩
  · have := hp.v_eq; subst this
    exact ⟨_, hk, _, by simp [Op.unary, Op.intBits, ixor], .v _⟩
  · exact hk.elim

theorem sure_sound {p : PV} {Kp : Prop} {x : Value} (hk : sureK rw p Kp) (hR : E.R = rw) (hp : Rep w E 0 p x) :
    Kp ∧ ((∃ f cs vs, p = .clo f cs ∧ x = .func (.func f) #[] vs) ∨ ∃ b o, x = .pointer (some ⟨b, o, none⟩) ∧ isPtr p = true ∧ ∀ d, Rep w E 0 (shiftP p d) (.pointer (some ⟨b, o + d, none⟩))) := by
  subst hR
  cases hp with
  | @ref _ _ k ver off x hv hx =>
    obtain ⟨h1, h2, hk⟩ := hk
    obtain ⟨b, hb, hx⟩ := hx h1 h2
    refine ⟨hk, .inr ⟨b, off, hx, rfl, fun d => .ref hv fun _ _ => ⟨b, hb, rfl⟩⟩⟩
  | @eref _ _ fr cells off b o cs hr hh =>
    refine ⟨hk, .inr ⟨b, o + off, rfl, rfl, fun d => ?_⟩⟩
    have := Rep.eref (w := w) (E := E) (lo := 0) (fr := fr) (off := off + d) (b := b) (o := o) cs hr hh
    rwa [← Nat.add_assoc] at this
  | clo hl hh => exact ⟨hk, .inl ⟨_, _, _, rfl, rfl⟩⟩
  | v x => exact hk.elim
  | sl => exact hk.elim
  | own => exact hk.elim
  | ag => exact hk.elim
  | tup => exact hk.elim
  | junk => exact hk.elim

theorem add_addr (b o d : Nat) : (⟨b, o, none⟩ : Addr).add d = ⟨b, o + d, none⟩ := by
  unfold Addr.add; split
  · rename_i h; simp [h]
  · rfl

theorem fieldAddr_sound (hT : T.Ok P) {t : TypeId} {f : Nat} {p : PV} {x : Value} (hk : fieldK T t f fun o _ => isPtr p = true ∧ sureK rw p (K (shiftP p o))) (hR : E.R = rw) (hp : Rep w E 0 p x) :
    ∃ r, K r ∧ ∃ v, (Instr.fieldAt t x f).run P w = .ok v w ∧ Rep w E 0 r v := by
  obtain ⟨hs, hk⟩ := hk
  have hf := (hT t hs).k
  split at hk
  · rename_i fs hfs
    rw [hfs] at hf
    obtain ⟨flds, hu, hfl⟩ := hf
    split at hk
    · rename_i o ft hget
      obtain ⟨hft, hptr, hk⟩ := hk
      obtain ⟨hk, hx⟩ := sure_sound hk hR hp
      rcases hx with ⟨f', cs, vs, rfl, _⟩ | ⟨b, off, rfl, _, hsh⟩
      · cases hptr
      · have hg : ∃ fd, flds[f]? = some fd ∧ fd.offset = o ∧ fd.type = ft := by
          rw [← hfl] at hget
          simp only [List.getElem?_map, Option.map_eq_some_iff] at hget
          obtain ⟨fd, h1, h2⟩ := hget
          injection h2 with h2 h3
          exact ⟨fd, by simpa using h1, h2, h3⟩
        obtain ⟨fd, h1, h2, h3⟩ := hg
        have hsz := run_sizeOf_of (hT ft hft) w
        refine ⟨_, hk, _, ?_, hsh o⟩
        have hne : (T ft).size ≠ 0 := by omega
        simp [Instr.fieldAt, run_underlying hu, h1, Instr.sureAddr, fieldPlace, h3, hsz, hne, h2, add_addr]
    · exact hk.elim
  · exact hk.elim

theorem ag_part (hT : T.Ok P) {t : TypeId} {cells : List PV} {vs : List Value} {o : Nat} (hk : ldK T t .asis cells o K) (hl : cells.length = vs.length)
    (hh : ∀ i (h : i < cells.length) (h' : i < vs.length), Rep w E 0 cells[i] vs[i]) : ∃ r, K r ∧ ∃ v, (part t vs.toArray o).run P w = .ok v w ∧ Rep w E 0 r v := by
  obtain ⟨hs, hk⟩ := hk
  have hf := hT t hs
  have hag := run_isAgg hf.k w
  have hsz := run_sizeOf_of hf w
  cases hagg : (T t).k.agg with
  | true =>
    simp only [hagg] at hk
    obtain ⟨hlen, hk⟩ := hk
    refine ⟨_, hk, .agg ((vs.drop o).take (T t).size).toArray, ?_, ?_⟩
    · simp [part, hag, hagg, hsz, List.extract_toArray, List.extract_eq_take_drop]
    · refine .ag (by simp [hl]) (fun i h h' => ?_)
      simp at h h'
      simp only [List.getElem_take, List.getElem_drop, List.getElem_map]
      exact hh _ (by omega) (by omega)
  | false =>
    simp only [hagg] at hk
    obtain ⟨hlen, hk⟩ := hk
    have hlen' : o < vs.length := by omega
    refine ⟨_, hk, vs[o], ?_, ?_⟩
    · simp [part, hag, hagg, hlen']
    · have e : cells.getD o .junk = cells[o] := by simp [List.getD, hlen]
      rw [e]
      exact hh o hlen hlen'

theorem field_sound (hT : T.Ok P) {t : TypeId} {f : Nat} {p : PV} {x : Value} (hk : fieldK T t f fun o ft => (match p with | .ag c => ldK T ft .asis c o K | _ => False)) (hp : Rep w E 0 p x) :
    ∃ r, K r ∧ ∃ v, (Instr.field t x f).run P w = .ok v w ∧ Rep w E 0 r v := by
  obtain ⟨hs, hk⟩ := hk
  have hf := (hT t hs).k
  split at hk
  · rename_i fs hfs
    rw [hfs] at hf
    obtain ⟨flds, hu, hfl⟩ := hf
    split at hk
    · rename_i o ft hget
      obtain ⟨hft, hk⟩ := hk
      cases hp with
      | @ag _ _ cells vs hl hh =>
        have hg : ∃ fd, flds[f]? = some fd ∧ fd.offset = o ∧ fd.type = ft := by
          rw [← hfl] at hget
          simp only [List.getElem?_map, Option.map_eq_some_iff] at hget
          obtain ⟨fd, h1, h2⟩ := hget
          injection h2 with h2 h3
          exact ⟨fd, by simpa using h1, h2, h3⟩
        obtain ⟨fd, h1, h2, h3⟩ := hg
        obtain ⟨r, hr, v, hv, hrep⟩ := ag_part (w := w) hT hk hl hh
        refine ⟨r, hr, v, ?_, hrep⟩
        simp [Instr.field, run_underlying hu, h1, asAgg, h2, h3, hv]
      | v x => exact hk.elim
      | sl => exact hk.elim
      | own => exact hk.elim
      | ref => exact hk.elim
      | eref => exact hk.elim
      | tup => exact hk.elim
      | clo => exact hk.elim
      | junk => exact hk.elim
    · exact hk.elim
  · exact hk.elim

theorem own_slice {k ver : Nat} {x : Value} (hw : WOk G E w) (hp : Rep w E 0 (.own k ver) x) (hv : (E.R k).ver = ver) {e : TypeId} {sz : Nat} {fz : Bool} {c : List PV} (hk : (E.R k).kind = .sli e sz fz c) (hc : 0 < c.length) :
    ∃ b n cap vs rest, E.rm k = some b ∧ x = .slice (some ⟨b, 0, none⟩) n cap ∧ w.heap[b]? = some (.cells (vs ++ rest).toArray e (0, 0)) ∧
      vs.length = n * sz ∧ n ≤ cap ∧ cap ≤ maxLen ∧ (vs ++ rest).length = cap * sz ∧ RepL w E.bare E.B c vs := by
  cases hp with
  | own _ hx =>
    have hx := hx hv (by rw [hk]; rfl)
    have hrow := hw.rows k
    unfold RowOk at hrow
    simp only [hk] at hrow
    rcases hrow with ⟨h1, h2, h3⟩ | ⟨b, n, cap, vs, rest, h1, h2, h3, h4, h5, h6, h7, h8, h9⟩
    · subst h3; simp at hc
    · exact ⟨b, n, cap, vs, rest, h1, hx.trans h3, h4, h5, h6, h7, h8, h9⟩

theorem run_indexAt_slice {t e : TypeId} {n : Nat} (hu : P.underlying t = some (.slice e)) (hs : (sizeOf e).run P w = .ok n w) {k : IntKind} {i : Int} {b o len cap : Nat} (h0 : 0 ≤ i) (h1 : i < len) :
    (Instr.indexAt t (.slice (some ⟨b, o, none⟩) len cap) (.int k i)).run P w = .ok (.pointer (some ⟨b, o + i.toNat * n, none⟩)) w := by
  simp [Instr.indexAt, asIntOf, run_underlying hu, h0, h1, hs, add_addr]

theorem run_indexAt_array {t e : TypeId} {n : Nat} {len : Nat} (hu : P.underlying t = some (.array len e)) (hs : (sizeOf e).run P w = .ok n w) {k : IntKind} {i : Int} {b o : Nat} (h0 : 0 ≤ i) (h1 : i < len) :
    (Instr.indexAt t (.pointer (some ⟨b, o, none⟩)) (.int k i)).run P w = .ok (.pointer (some ⟨b, o + i.toNat * n, none⟩)) w := by
  simp [Instr.indexAt, asIntOf, run_underlying hu, h0, h1, hs, add_addr, Instr.sureAddr]

theorem lt_of_cells {i sz len : Nat} {m : Nat} (h : i * sz < m) (hl : m = len * sz) : i < len := by
  subst hl
  exact Nat.lt_of_mul_lt_mul_right h

theorem indexAddr_sound (hT : T.Ok P) (hw : WOk G E w) {t : TypeId} {p q : PV} {x y : Value} (hk : indexAddrK T rw t p q K) (hR : E.R = rw) (hp : Rep w E 0 p x) (hq : Rep w E 0 q y) :
    ∃ r, K r ∧ ∃ v, (Instr.indexAt t x y).run P w = .ok v w ∧ Rep w E 0 r v := by
  subst hR
  unfold indexAddrK at hk
  split at hk
  · rename_i k n
    have := hq.v_eq; subst this
    obtain ⟨hs, hk⟩ := hk
    have hf := (hT t hs).k
    split at hk
    · rename_i e he
      rw [he] at hf
      have hu : P.underlying t = some (.slice e) := hf
      split at hk
      · rename_i fr sz c
        obtain ⟨hes, hsz, h0, h1, hk⟩ := hk
        have hsize := run_sizeOf_of (hT e hes) w
        rw [← hsz] at hsize
        cases hp with
        | @sl _ _ _ _ len cap _ a cs hl hc hm hr hh =>
          obtain ⟨b, o, rfl, hb, hL, hcell⟩ := hr _ h1
          have hlt : n.toNat < len := lt_of_cells h1 hl
          refine ⟨_, hk, _, run_indexAt_slice hu hsize h0 (by omega), ?_⟩
          refine .eref (b := b) (o := o) cs (fun i hi => ?_) hh
          obtain ⟨b', o', ha, hb', hL', hcell'⟩ := hr i hi
          injection ha with ha
          injection ha with h1 h2
          subst h1; subst h2
          exact ⟨hb', hL', hcell'⟩
      · rename_i k' ver
        obtain ⟨hv, hk⟩ := hk
        split at hk
        · rename_i e' sz fz c hkind
          obtain ⟨hes, hsz, h0, h1, hk⟩ := hk
          have hsize := run_sizeOf_of (hT e hes) w
          rw [← hsz] at hsize
          obtain ⟨b, m, cap, vs, rest, hrm, rfl, hheap, hvl, hmc, hcm, hcap, hrl⟩ := own_slice hw hp hv hkind (by omega)
          have hlt : n.toNat < m := lt_of_cells h1 (hrl.1.trans hvl)
          refine ⟨_, hk, _, run_indexAt_slice hu hsize h0 (by omega), ?_⟩
          rw [Nat.zero_add]
          exact .ref (by omega) fun _ _ => ⟨b, hrm, rfl⟩
        · exact hk.elim
      · exact hk.elim
    · rename_i len e he
      rw [he] at hf
      have hu : P.underlying t = some (.array len e) := hf
      obtain ⟨hptr, hes, h0, h1, hk⟩ := hk
      have hsize := run_sizeOf_of (hT e hes) w
      obtain ⟨hk, hx⟩ := sure_sound hk rfl hp
      rcases hx with ⟨f', cs, vs, rfl, _⟩ | ⟨b, off, rfl, _, hsh⟩
      · cases hptr
      · exact ⟨_, hk, _, run_indexAt_array hu hsize h0 h1, hsh _⟩
    · exact hk.elim
  · exact hk.elim

theorem len_sound (hT : T.Ok P) (hw : WOk G E w) {t ty : TypeId} {p : PV} {x : Value} (hk : lenK T rw t p K) (hR : E.R = rw) (hp : Rep w E 0 p x) :
    ∃ r, K r ∧ ∃ v, (Builtin.len_ #[t] ty #[x]).run P w = .ok v w ∧ Rep w E 0 r v := by
  obtain ⟨hs, hk⟩ := hk
  have hf := (hT t hs).k
  split at hk
  · rename_i he
    rw [he] at hf
    have hu : P.underlying t = some .string := hf
    split at hk
    · have := hp.v_eq; subst this
      exact ⟨_, hk, _, by simp [Builtin.len_, run_underlying hu, goInt], .v _⟩
    · exact hk.elim
  · rename_i e he
    rw [he] at hf
    have hu : P.underlying t = some (.slice e) := hf
    obtain ⟨fr, sz, c, ⟨hsz, hk⟩, a, len, cap, cs, rfl, hl, _⟩ := slK_sound hk hR hw hp
    have e : c.length / sz = len := by rw [hl]; exact Nat.mul_div_cancel _ hsz
    rw [e] at hk
    exact ⟨_, hk, _, by simp [Builtin.len_, run_underlying hu, goInt], .v _⟩
  · rename_i n e he
    rw [he] at hf
    have hu : P.underlying t = some (.array n e) := hf
    exact ⟨_, hk, _, by simp [Builtin.len_, run_underlying hu, goInt], .v _⟩
  · exact hk.elim

end
end Go.Abs
