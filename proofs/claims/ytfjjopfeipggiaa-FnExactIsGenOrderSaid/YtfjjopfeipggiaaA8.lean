/- DERIVED by an AI agent. All operations that compute or read, calls among them: the model yields what they are said to yield. No program in sight. -/
import Derived.Test.YtfjjopfeipggiaaA7
namespace Go.Abs
set_option linter.unusedSimpArgs false

section
variable {P : Program} {T : Tab} {rw : Nat → Row} {ev : Operand → PV}

theorem bndK_det {o : Option Operand} {d : Int} {K : Int → Prop} (h : bndK ev o d K) : ∃ n, K n ∧ ∀ K' : Int → Prop, K' n → bndK ev o d K' := by
  unfold bndK at *
  cases o with
  | none => exact ⟨_, h, fun _ h => h⟩
  | some x =>
    dsimp only at h ⊢
    split at h
    · exact ⟨_, h, fun _ h => h⟩
    · exact h.elim
theorem slFzK_det {p : PV} {K : Bool → Nat → List PV → Prop} (h : slFzK rw p K) : ∃ a b c, K a b c ∧ ∀ K' : Bool → Nat → List PV → Prop, K' a b c → slFzK rw p K' := by
  unfold slFzK at *
  split at h
  · exact ⟨_, _, _, h, fun _ h => h⟩
  · obtain ⟨h1, h2, h⟩ := h
    split at h
    · exact ⟨_, _, _, h, fun _ h => ⟨h1, h2, h⟩⟩
    · exact h.elim
  · exact h.elim
theorem slK_det {p : PV} {K : Bool → Nat → List PV → Prop} (h : slK rw p K) : ∃ a b c, K a b c ∧ ∀ K' : Bool → Nat → List PV → Prop, K' a b c → slK rw p K' := by
  unfold slK at *
  split at h
  · exact ⟨_, _, _, h, fun _ h => h⟩
  · obtain ⟨h2, h⟩ := h
    split at h
    · exact ⟨_, _, _, h, fun _ h => ⟨h2, h⟩⟩
    · exact ⟨_, _, _, h, fun _ h => ⟨h2, h⟩⟩
    · exact h.elim
  · exact ⟨_, _, _, h.2, fun _ h' => ⟨h.1, h'⟩⟩
  · exact h.elim
theorem ptrK_det {p : PV} {K : Md → List PV → Nat → Prop} (h : ptrK rw p K) : ∃ a b c, K a b c ∧ ∀ K' : Md → List PV → Nat → Prop, K' a b c → ptrK rw p K' := by
  unfold ptrK at *
  split at h
  · obtain ⟨h2, h⟩ := h
    split at h
    · exact ⟨_, _, _, h, fun _ h => ⟨h2, h⟩⟩
    · exact ⟨_, _, _, h, fun _ h => ⟨h2, h⟩⟩
    · exact h.elim
  · exact ⟨_, _, _, h, fun _ h => h⟩
  · exact h.elim
theorem ldK_det {t : TypeId} {m : Md} {c : List PV} {off : Nat} {K : PV → Prop} (h : ldK T t m c off K) : ∃ p, K p ∧ ∀ K' : PV → Prop, K' p → ldK T t m c off K' := by
  unfold ldK at *
  obtain ⟨h1, h⟩ := h
  split at h
  · exact ⟨_, h.2, fun _ h' => ⟨h1, h.1, h'⟩⟩
  · exact ⟨_, h.2, fun _ h' => ⟨h1, h.1, h'⟩⟩
theorem fieldK_det {t : TypeId} {f : Nat} {K : Nat → TypeId → Prop} (h : fieldK T t f K) : ∃ a b, K a b ∧ ∀ K' : Nat → TypeId → Prop, K' a b → fieldK T t f K' := by
  unfold fieldK at *
  obtain ⟨h1, h⟩ := h
  split at h
  · split at h
    · exact ⟨_, _, h.2, fun _ h' => ⟨h1, h.1, h'⟩⟩
    · exact h.elim
  · exact h.elim
theorem sureK_det {p : PV} {K : Prop} (h : sureK rw p K) : K ∧ ∀ K' : Prop, K' → sureK rw p K' := by
  unfold sureK at *
  split at h
  · exact ⟨h.2.2, fun _ h' => ⟨h.1, h.2.1, h'⟩⟩
  · exact ⟨h, fun _ h => h⟩
  · exact ⟨h, fun _ h => h⟩
  · exact h.elim
theorem indexAddrK_det {t : TypeId} {x i : PV} {K : PV → Prop} (h : indexAddrK T rw t x i K) : ∃ p, K p ∧ ∀ K' : PV → Prop, K' p → indexAddrK T rw t x i K' := by
  unfold indexAddrK at *
  split at h
  · obtain ⟨h1, h⟩ := h
    split at h
    · split at h
      · obtain ⟨a, b, c, d, h⟩ := h
        exact ⟨_, h, fun _ h' => ⟨h1, a, b, c, d, h'⟩⟩
      · obtain ⟨a0, h⟩ := h
        split at h
        · obtain ⟨a, b, c, d, h⟩ := h
          exact ⟨_, h, fun _ h' => ⟨h1, a0, a, b, c, d, h'⟩⟩
        · exact h.elim
      · exact h.elim
    · obtain ⟨a, b, c, d, h⟩ := h
      obtain ⟨h, h'⟩ := sureK_det h
      exact ⟨_, h, fun _ hk => ⟨h1, a, b, c, d, h' _ hk⟩⟩
    · exact h.elim
  · exact h.elim
theorem lenK_det {t : TypeId} {x : PV} {K : PV → Prop} (h : lenK T rw t x K) : ∃ p, K p ∧ ∀ K' : PV → Prop, K' p → lenK T rw t x K' := by
  unfold lenK at *
  obtain ⟨h1, h⟩ := h
  split at h
  · split at h
    · exact ⟨_, h, fun _ h' => ⟨h1, h'⟩⟩
    · exact h.elim
  · obtain ⟨a, b, c, h, h'⟩ := slK_det h
    exact ⟨_, h.2, fun _ hk => ⟨h1, h' _ ⟨h.1, hk⟩⟩⟩
  · exact ⟨_, h, fun _ h' => ⟨h1, h'⟩⟩
  · exact h.elim
theorem sliceK_det {t : TypeId} {x : PV} {lo hi mx : Option Operand} {K : PV → Prop} (h : sliceK T rw ev t x lo hi mx K) : ∃ p, K p ∧ ∀ K' : PV → Prop, K' p → sliceK T rw ev t x lo hi mx K' := by
  unfold sliceK at *
  obtain ⟨h1, h⟩ := h
  split at h
  · obtain ⟨h2, h⟩ := h
    split at h
    · obtain ⟨l, h, hl⟩ := bndK_det h
      obtain ⟨u, h, hu⟩ := bndK_det h
      obtain ⟨a, b, c, h⟩ := h
      exact ⟨_, h, fun _ h' => ⟨h1, h2, hl _ (hu _ ⟨a, b, c, h'⟩)⟩⟩
    · exact h.elim
  · obtain ⟨fr, sz, c, ⟨h3, h4, h⟩, hs⟩ := slFzK_det h
    obtain ⟨l, h, hl⟩ := bndK_det h
    obtain ⟨u, h, hu⟩ := bndK_det h
    obtain ⟨m, h, hm⟩ := bndK_det h
    obtain ⟨a, b, c, d, e, h⟩ := h
    exact ⟨_, h, fun _ h' => ⟨h1, hs _ ⟨h3, h4, hl _ (hu _ (hm _ ⟨a, b, c, d, e, h'⟩))⟩⟩⟩
  · exact h.elim
theorem minmaxK_det {m : Bool} {x y : PV} {K : PV → Prop} (h : minmaxK m x y K) : ∃ p, K p ∧ ∀ K' : PV → Prop, K' p → minmaxK m x y K' := by
  unfold minmaxK at *
  split at h
  · exact ⟨_, h, fun _ h => h⟩
  · exact h.elim
theorem convK_det {a b : TypeId} {x : PV} {K : PV → Prop} (h : convK T rw a b x K) : ∃ p, K p ∧ ∀ K' : PV → Prop, K' p → convK T rw a b x K' := by
  unfold convK at *
  obtain ⟨h1, h2, h⟩ := h
  split at h
  · split at h
    · exact ⟨_, h, fun _ h' => ⟨h1, h2, h'⟩⟩
    · exact h.elim
  · split at h
    · exact ⟨_, h, fun _ h' => ⟨h1, h2, h'⟩⟩
    · exact h.elim
  · obtain ⟨h3, h⟩ := h
    split at h
    · obtain ⟨a, b, c, ⟨h4, bs, h5, h⟩, hs⟩ := slK_det h
      exact ⟨_, h, fun _ h' => ⟨h1, h2, h3, hs _ ⟨h4, bs, h5, h'⟩⟩⟩
    · exact h.elim
  · exact h.elim
theorem binK_det {op : BinOp} {t : TypeId} {x y : PV} {K : PV → Prop} (h : binK T op t x y K) : ∃ p, K p ∧ ∀ K' : PV → Prop, K' p → binK T op t x y K' := by
  unfold binK at *
  split at h
  · exact ⟨_, h.2, fun _ h' => ⟨h.1, h'⟩⟩
  · obtain ⟨h1, h⟩ := h
    split at h
    · exact ⟨_, h, fun _ h' => ⟨h1, h'⟩⟩
    · exact h.elim
  · obtain ⟨h1, h2, h⟩ := h
    split at h
    · exact ⟨_, h, fun _ h' => ⟨h1, h2, h'⟩⟩
    · exact ⟨_, h, fun _ h' => ⟨h1, h2, h'⟩⟩
    · exact h.elim
  · exact h.elim
theorem unK_det {op : UnOp} {x : PV} {K : PV → Prop} (h : unK op x K) : ∃ p, K p ∧ ∀ K' : PV → Prop, K' p → unK op x K' := by
  unfold unK at *
  split at h
  · exact ⟨_, h, fun _ h => h⟩
  · exact ⟨_, h, fun _ h => h⟩
  · exact ⟨_, h, fun _ h => h⟩
  · exact h.elim
end

section
variable {P : Program} {T : Tab} {G : Ghost} {K : PV → Prop} {s : St}

/-- A value by one law over the operands. -/
theorem yields_pure {o : Oper} {p : PV} (h : ∀ (E : Env) (a : Act) (w : World), E.R = s.rw → WOk G E w → (∀ x ∈ o.op.operands, Rep w E 0 (s.ev x) (a.eval x)) → ∃ v, (execOp a.eval o).run P w = .ok (.value v) w ∧ Rep w E 0 p v) :
    Yields P G s o p := yields_of_run fun E a w hR hw hx => let ⟨v, h1, h2⟩ := h E a w hR hw hx; ⟨v, w, h1, Ext.refl w, h2⟩

theorem minmax_sound {w : World} {E : Env} {m : Bool} {p q : PV} {a b : Value} {r : PV} (hk : minmaxK m p q (· = r)) (hp : Rep w E 0 p a) (hq : Rep w E 0 q b) :
    ∃ v, (match m with | true => Builtin.max_ #[] 0 #[a, b] | false => Builtin.min_ #[] 0 #[a, b] : Sem Value).run P w = .ok v w ∧ Rep w E 0 r v := by
  unfold minmaxK at hk
  split at hk
  · have := hp.v_eq; subst this
    have := hq.v_eq; subst this
    subst hk
    cases m
    · exact ⟨_, by simp [Builtin.min_, Builtin.min2], .v _⟩
    · exact ⟨_, by simp [Builtin.max_, Builtin.max2], .v _⟩
  · exact hk.elim

theorem val_sound (hT : T.Ok P) {o : Oper} (hk : valK T s.rw s.ev o.op K) : ∃ p, K p ∧ Yields P G s o p := by
  cases ho : o.op with
  | move x =>
    rw [ho] at hk
    exact ⟨_, hk, yields_pure fun E a w hR hw hx => ⟨a.eval x, by simp [execOp, ho], hx x (by simp [ho, Op.operands])⟩⟩
  | assign x =>
    rw [ho] at hk
    exact ⟨_, hk, yields_pure fun E a w hR hw hx => ⟨a.eval x, by simp [execOp, ho], hx x (by simp [ho, Op.operands])⟩⟩
  | pick c x y =>
    rw [ho] at hk
    simp only [valK] at hk
    split at hk
    · rename_i t hc
      cases t with
      | true =>
        refine ⟨_, hk.1 rfl, yields_pure fun E a w hR hw hx => ⟨a.eval x, ?_, hx x (by simp [ho, Op.operands])⟩⟩
        have h1 := hx c (by simp [ho, Op.operands])
        rw [hc] at h1
        simp [execOp, ho, h1.v_eq, asBool]
      | false =>
        refine ⟨_, hk.2 rfl, yields_pure fun E a w hR hw hx => ⟨a.eval y, ?_, hx y (by simp [ho, Op.operands])⟩⟩
        have h1 := hx c (by simp [ho, Op.operands])
        rw [hc] at h1
        simp [execOp, ho, h1.v_eq, asBool]
    · exact hk.elim
  | binOp op t x y yt =>
    rw [ho] at hk
    obtain ⟨p, hp, hd⟩ := binK_det hk
    refine ⟨p, hp, yields_pure fun E a w hR hw hx => ?_⟩
    obtain ⟨r, rfl, v, hv, hr⟩ := bin_sound (x := x) (y := y) hT (hd (· = p) rfl) (hx x (by simp [ho, Op.operands])) (hx y (by simp [ho, Op.operands]))
    exact ⟨v, by simp only [execOp, ho]; rw [Sem.run_bind, hv]; rfl, hr⟩
  | unOp op t x =>
    rw [ho] at hk
    obtain ⟨p, hp, hd⟩ := unK_det hk
    refine ⟨p, hp, yields_pure fun E a w hR hw hx => ?_⟩
    obtain ⟨r, rfl, v, hv, hr⟩ := un_sound (P := P) (hd (· = p) rfl) (hx x (by simp [ho, Op.operands]))
    exact ⟨v, by simp [execOp, ho, hv], hr⟩
  | convert src dst x =>
    rw [ho] at hk
    obtain ⟨p, hp, hd⟩ := convK_det hk
    refine ⟨p, hp, yields_pure fun E a w hR hw hx => ?_⟩
    obtain ⟨r, rfl, v, hv, hr⟩ := conv_sound hT hw (hd (· = p) rfl) hR (hx x (by simp [ho, Op.operands]))
    exact ⟨v, by simp [execOp, ho, hv], hr⟩
  | load t x =>
    rw [ho] at hk
    simp only [valK] at hk
    obtain ⟨m, c, off, hk, hd⟩ := ptrK_det hk
    obtain ⟨p, hp, hl⟩ := ldK_det hk
    refine ⟨p, hp, yields_pure fun E a w hR hw hx => ?_⟩
    have h1 := hd (fun m c off => ldK T t m c off (· = p)) (hl _ rfl)
    obtain ⟨m', c', off', h2, hat⟩ := ptrK_sound h1 hR hw (hx x (by simp [ho, Op.operands]))
    obtain ⟨r, v, rfl, hv, hr⟩ := ldK_sound hT h2 hat
    exact ⟨v, by simp [execOp, ho, hv], hr⟩
  | fieldAddr t x f =>
    rw [ho] at hk
    obtain ⟨o', ft, hk, hd⟩ := fieldK_det hk
    obtain ⟨hptr, hk⟩ := hk
    obtain ⟨hk, hs⟩ := sureK_det hk
    refine ⟨_, hk, yields_pure fun E a w hR hw hx => ?_⟩
    have h1 := hd (fun o'' _ => isPtr (s.ev x) = true ∧ sureK s.rw (s.ev x) ((· = shiftP (s.ev x) o') (shiftP (s.ev x) o''))) ⟨hptr, hs _ rfl⟩
    obtain ⟨r, rfl, v, hv, hr⟩ := fieldAddr_sound (K := (· = shiftP (s.ev x) o')) hT h1 hR (hx x (by simp [ho, Op.operands]))
    exact ⟨v, by simp [execOp, ho, hv], hr⟩
  | field t x f =>
    rw [ho] at hk
    obtain ⟨o', ft, hk, hd⟩ := fieldK_det hk
    cases he : s.ev x with
    | ag c =>
      rw [he] at hk
      obtain ⟨p, hp, hl⟩ := ldK_det hk
      refine ⟨p, hp, yields_pure fun E a w hR hw hx => ?_⟩
      have h1 := hd (fun o ft => (match s.ev x with | .ag c => ldK T ft .asis c o (· = p) | _ => False)) (by rw [he]; exact hl _ rfl)
      obtain ⟨r, rfl, v, hv, hr⟩ := field_sound hT h1 (hx x (by simp [ho, Op.operands]))
      exact ⟨v, by simp [execOp, ho, hv], hr⟩
    | _ => rw [he] at hk; exact hk.elim
  | indexAddr t x i =>
    rw [ho] at hk
    obtain ⟨p, hp, hd⟩ := indexAddrK_det hk
    refine ⟨p, hp, yields_pure fun E a w hR hw hx => ?_⟩
    obtain ⟨r, rfl, v, hv, hr⟩ := indexAddr_sound hT hw (hd (· = p) rfl) hR (hx x (by simp [ho, Op.operands])) (hx i (by simp [ho, Op.operands]))
    exact ⟨v, by simp [execOp, ho, hv], hr⟩
  | index t x i =>
    rw [ho] at hk
    simp only [valK] at hk
    obtain ⟨hs, hk⟩ := hk
    have hf := (hT t hs).k
    split at hk
    · rename_i b k n hkt hx1 hi1
      rw [hkt] at hf
      have hu : P.underlying t = some .string := hf
      obtain ⟨h0, h1, hk⟩ := hk
      refine ⟨_, hk, yields_pure fun E a w hR hw hx => ?_⟩
      have e1 := hx x (by simp [ho, Op.operands])
      have e2 := hx i (by simp [ho, Op.operands])
      rw [hx1] at e1; rw [hi1] at e2
      refine ⟨_, ?_, .v _⟩
      have hb : b[n.toNat]? = some (b.data.toList.getD n.toNat 0) := by
        have h1' : n.toNat < b.data.size := h1
        rw [getElem?_pos b n.toNat h1]
        have h2 : b[n.toNat] = b.data[n.toNat] := rfl
        simp only [List.getD, Array.getElem?_toList, Option.some.injEq]
        rw [h2, getElem?_pos b.data n.toNat h1']
        rfl
      simp [execOp, ho, e1.v_eq, e2.v_eq, Instr.index, asIntOf, run_underlying hu, h0, hb]
    · rename_i len e c k n hkt hx1 hi1
      rw [hkt] at hf
      have hu : P.underlying t = some (.array len e) := hf
      obtain ⟨h0, h1, hk⟩ := hk
      obtain ⟨p, hp, hl⟩ := ldK_det hk
      refine ⟨p, hp, yields_pure fun E a w hR hw hx => ?_⟩
      have e1 := hx x (by simp [ho, Op.operands])
      have e2 := hx i (by simp [ho, Op.operands])
      rw [hx1] at e1; rw [hi1] at e2
      have hsz := run_sizeOf_of (hT e hk.1) w
      generalize hvx : a.eval x = vx at e1
      generalize hvi : a.eval i = vi at e2
      have := e2.v_eq; subst this
      cases e1 with
      | @ag _ _ _ vs hlen hh =>
        obtain ⟨r, rfl, v, hv, hr⟩ := ag_part (w := w) (E := E) hT (hl (· = p) rfl) hlen hh
        refine ⟨v, ?_, hr⟩
        simp [execOp, ho, hvi, hvx, Instr.index, asIntOf, run_underlying hu, h0, h1, hsz, hv]
    · exact hk.elim
  | slice t x lo hi mx =>
    rw [ho] at hk
    obtain ⟨p, hp, hd⟩ := sliceK_det hk
    refine ⟨p, hp, yields_pure fun E a w hR hw hx => ?_⟩
    obtain ⟨r, rfl, v, hv, hr⟩ := slice_sound (a := a) hT hw (hd (· = p) rfl) hR (hx x (by simp [ho, Op.operands]))
      (fun y hy => hx y (by subst hy; simp [ho, Op.operands])) (fun y hy => hx y (by subst hy; simp [ho, Op.operands])) (fun y hy => hx y (by subst hy; simp [ho, Op.operands]))
    exact ⟨v, by simp [execOp, ho, hv], hr⟩
  | extract x i =>
    rw [ho] at hk
    simp only [valK] at hk
    split at hk
    · rename_i ps he
      obtain ⟨hi, hk⟩ := hk
      refine ⟨_, hk, yields_pure fun E a w hR hw hx => ?_⟩
      have e1 := hx x (by simp [ho, Op.operands])
      rw [he] at e1
      generalize hvx : a.eval x = vx at e1
      cases e1 with
      | @tup _ _ _ vs hl hh =>
        have hi' : i < vs.length := by omega
        have e : ps.getD i .junk = ps[i] := by simp [List.getD, hi]
        refine ⟨vs[i], ?_, by rw [e]; exact hh i hi hi'⟩
        simp [execOp, ho, hvx, Instr.extract, hi']
    · exact hk.elim
  | makeFunc fn first caps =>
    rw [ho] at hk
    simp only [valK] at hk
    split at hk
    · rename_i f
      obtain ⟨rfl, hk⟩ := hk
      refine ⟨_, hk, yields_pure fun E a w hR hw hx => ?_⟩
      refine ⟨.func (.func f) #[] (caps.map a.eval), by simp [execOp, ho, Instr.makeFunc], ?_⟩
      have := Rep.clo (w := w) (E := E) (lo := 0) (f := f) (cells := caps.toList.map s.ev) (vs := caps.toList.map a.eval) (by simp) (fun i h h' => by
        simp only [List.getElem_map]
        exact hx _ (by simp [ho, Op.operands]))
      rw [show Array.map a.eval caps = (caps.toList.map a.eval).toArray from Array.toList_inj.1 (by rw [Array.toList_map])]
      exact this
    · exact hk.elim
  | nilCheck x =>
    rw [ho] at hk
    obtain ⟨hk, hs⟩ := sureK_det hk
    refine ⟨_, hk, yields_pure fun E a w hR hw hx => ?_⟩
    have e1 := hx x (by simp [ho, Op.operands])
    obtain ⟨_, h⟩ := sure_sound (hs True trivial) hR e1
    refine ⟨a.eval x, ?_, e1⟩
    rcases h with ⟨f, cs, vs, _, hv⟩ | ⟨b, o', hv, _, _⟩
    · simp [execOp, ho, hv]
    · simp [execOp, ho, hv]
  | call c =>
    rw [ho] at hk
    simp only [valK] at hk
    split at hk
    · rename_i x t
      obtain ⟨p, hp, hd⟩ := lenK_det hk
      refine ⟨p, hp, yields_pure fun E a w hR hw hx => ?_⟩
      obtain ⟨r, rfl, v, hv, hr⟩ := len_sound (ty := o.type) hT hw (hd (· = p) rfl) hR (hx x (by simp [ho, Op.operands, Call.operands]))
      exact ⟨v, by simp [execOp, ho, resolve, invoke, builtin, hv], hr⟩
    · rename_i x y _
      obtain ⟨p, hp, hd⟩ := minmaxK_det hk
      refine ⟨p, hp, yields_pure fun E a w hR hw hx => ?_⟩
      obtain ⟨v, hv, hr⟩ := minmax_sound (P := P) (hd (· = p) rfl) (hx x (by simp [ho, Op.operands, Call.operands])) (hx y (by simp [ho, Op.operands, Call.operands]))
      exact ⟨v, by have hv' := hv; simp [Builtin.max_] at hv'; simp [execOp, ho, resolve, invoke, builtin, Builtin.max_, hv'], hr⟩
    · rename_i x y _
      obtain ⟨p, hp, hd⟩ := minmaxK_det hk
      refine ⟨p, hp, yields_pure fun E a w hR hw hx => ?_⟩
      obtain ⟨v, hv, hr⟩ := minmax_sound (P := P) (hd (· = p) rfl) (hx x (by simp [ho, Op.operands, Call.operands])) (hx y (by simp [ho, Op.operands, Call.operands]))
      exact ⟨v, by have hv' := hv; simp [Builtin.min_] at hv'; simp [execOp, ho, resolve, invoke, builtin, Builtin.min_, hv'], hr⟩
    · exact hk.elim
  | _ => rw [ho] at hk; exact hk.elim
end
end Go.Abs
