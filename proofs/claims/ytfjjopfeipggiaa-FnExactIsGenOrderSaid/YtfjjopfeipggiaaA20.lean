/- DERIVED by an AI agent. Rows written no more; all operations together; a region in the order of the text. No program in sight. -/
import Derived.Test.YtfjjopfeipggiaaA19c
namespace Go.Abs
set_option linter.unusedSimpArgs false

/-- A state that says less, or says it otherwise. -/
def Wk (s s' : St) : Prop := ∀ (G : Ghost) (a : Act) (w : World), Sim G s a w → Sim G s' a w
theorem Wk.refl (s : St) : Wk s s := fun _ _ _ h => h
theorem Wk.trans {a b c : St} (h : Wk a b) (k : Wk b c) : Wk a c := fun G x w hs => k G x w (h G x w hs)

theorem frz_frz (r : Row) : frz r = r ∨ ∃ e sz fz c, r.kind = .sli e sz fz c := by
  unfold frz; split
  · rename_i h; exact .inr ⟨_, _, _, _, h⟩
  · exact .inl rfl

theorem Wk.freeze (s : St) (ks : List Nat) : Wk s (s.freeze ks) := by
  intro G a w ⟨E, hs⟩
  have ht : Turn G E { R := frzF E.R ks, rm := E.rm, rv := E.rv, L := mkL (frzF E.R ks) E.rm, B := E.B } w w (· ∈ ks) := by
    have at_ : ∀ k, k ∈ ks → frzF E.R ks k = frz (E.R k) := fun k hk => by simp [frzF, hk]
    refine ⟨rfl, rfl, fun k hk => ⟨by simp [frzF, hk], rfl, rfl⟩, fun _ _ _ => rfl, fun k b hk hb hn => .inr ⟨hb, ?_, fun hl => ?_⟩, fun k hk => ?_, fun k hk _ h => ⟨?_, rfl⟩, fun k hk _ h => ⟨?_, rfl⟩, fun k hk hn => ?_, fun k k' b hk hk' hn hn' hb hb' => ?_, Nat.le_refl _, rfl, rfl, rfl⟩
    · simpa [at_ k hk, frz_nd] using hn
    · exact frz_live _ (by simpa [at_ k hk] using hl)
    · simp [at_ k hk, frz_ver]
    · simpa [at_ k hk, frz_slice] using h
    · simpa [at_ k hk, frz_nd] using h
    · have := hs.wok.pos k (by simpa [at_ k hk, frz_nd] using hn)
      simpa [at_ k hk, frz_ver] using this
    · exact hs.wok.inj k k' b (by simpa [at_ k hk, frz_nd] using hn) (by simpa [at_ k' hk', frz_nd] using hn') hb hb'
  have hl := ht.lasts hs.wok
  have hrows : ∀ k, k ∈ ks → RowOk w { R := frzF E.R ks, rm := E.rm, rv := E.rv, L := mkL (frzF E.R ks) E.rm, B := E.B } G.C k := by
    intro k hk
    have hr := hs.wok.rows k
    have hf : frzF E.R ks k = frz (E.R k) := by simp [frzF, hk]
    unfold RowOk at hr ⊢
    simp only [hf]
    cases hkd : (E.R k).kind with
    | dead => simp [frz, hkd]
    | nil => simp only [hkd, frz] at hr ⊢; exact hr
    | box t cells =>
      simp only [hkd, frz] at hr ⊢
      obtain ⟨b, vs, h1, h2, h3, h4⟩ := hr
      exact ⟨b, vs, h1, h2, h3, h4.mono hl (Nat.le_refl _)⟩
    | sli e sz fz' cells =>
      simp only [hkd, frz] at hr ⊢
      rcases hr with hr | ⟨b, n, cap, vs, rest, h1, h2, h3, h4, h5, h6, h7, h8, h9⟩
      · exact .inl hr
      · exact .inr ⟨b, n, cap, vs, rest, h1, h2, h3, h4, h5, h6, h7, h8, h9.mono hl.bare (Nat.le_refl _)⟩
  have key := ht.sim hs hrows
  have e : ({ s with rw := frzF E.R ks } : St) = s.freeze ks := by rw [hs.rw]; rfl
  exact ⟨_, e ▸ key⟩

/-- An operation: what it asks of the state, what state it leaves. -/
def opK (P : Program) (T : Tab) (s : St) (o : Oper) (K : St → Prop) : Prop :=
  match o.op with
  | .assign (.const c) =>
    (match isNil c with
    | true => (match o.dst with | some d => K (newSt s d (match (T o.type).k with | .sli e => .sli e (T e).size false [] | _ => .nil) fun v => .own d v) | none => False)
    | false => K (s.put o.dst (constPV c)))
  | .alloc t => (match o.dst with | some d => 0 < (T t).size ∧ K (newSt s d (.box t ((T t).zero.map PV.v)) fun v => .ref d v 0) | none => False)
  | .box t x => (match o.dst with | some d => cellsK s.rw (s.ev x) fun c => K (newSt s d (.box t c) fun v => .ref d v 0) | none => False)
  | .makeSlice t l c =>
    (match o.dst, (T t).k, s.ev l, s.ev c with
    | some d, .sli e, .v (.int _ nl), .v (.int _ nc) => 0 < (T t).size ∧ (T e).size = 1 ∧ (match (T e).zero with
        | [z] => 0 ≤ nl ∧ nl ≤ nc ∧ ((T e).bytes : Int) * nc ≤ 281474976710656 ∧ nc ≤ 9223372036854775807 ∧ K (newSt s d (.sli e 1 false (List.replicate nl.toNat (.v z))) fun v => .own d v)
        | _ => False)
    | _, _, _, _ => False)
  | .buildSlice t n parts => (match o.dst with | some d => buildK T s d t n parts K | none => False)
  | .store t ad x => o.dst = none ∧ storeK T s t (s.ev ad) (s.ev x) K
  | .build t parts => buildVK T s.rw s.ev t parts fun p => K (s.put o.dst p)
  | .slice _ x _ _ _ =>
    (match s.ev x with
    | .own k _ => (match (s.rw k).kind with
        | .sli _ _ false _ => valK T (s.freeze [k]).rw s.ev o.op fun p => K ((s.freeze [k]).put o.dst p)
        | _ => valK T s.rw s.ev o.op fun p => K (s.put o.dst p))
    | _ => valK T s.rw s.ev o.op fun p => K (s.put o.dst p))
  | .call c =>
    (match c.callee with
    | .builtin .append => (match c.args, c.argTypes, o.dst with | ⟨[x, y]⟩, ⟨[t, t2]⟩, some d => appendK T s d t t2 (s.ev x) (s.ev y) K | _, _, _ => False)
    | .value f => (match o.dst with | some d => callK P s.rw s.ev f c.args fun rv => K (adoptSt s d rv) | none => callK P s.rw s.ev f c.args fun _ => K s) ∨ callM P s f c.args o.dst K
    | _ => valK T s.rw s.ev o.op fun p => K (s.put o.dst p))
  | _ => valK T s.rw s.ev o.op fun p => K (s.put o.dst p)

section
variable {P : Program} {T : Tab} {G : Ghost} {s : St} {o : Oper}

theorem Yields.effects {p : PV} (h : Yields P G s o p) (hd : ∀ d, o.dst = some d → d < G.n) : Effects P G s o (s.put o.dst p) := by
  intro a w ⟨E, hs⟩ K Q hK
  exact h E a w hs.rw hs.wok (fun x _ => eval_rep hs.slots x) K Q fun v w' hx hv => hK _ _ ⟨E, (hs.ext hx).put hd hv⟩

theorem val_eff (hT : T.Ok P) {K : St → Prop} (hd : ∀ d, o.dst = some d → d < G.n) (hk : valK T s.rw s.ev o.op fun p => K (s.put o.dst p)) : ∃ s', K s' ∧ Effects P G s o s' := by
  obtain ⟨p, hp, hy⟩ := val_sound (G := G) hT hk
  exact ⟨_, hp, hy.effects hd⟩

theorem Effects.wk {s1 s' : St} (hw : Wk s s1) (h : Effects P G s1 o s') : Effects P G s o s' := fun a w hs => h a w (hw G a w hs)

theorem op_sound (hT : T.Ok P) {K : St → Prop} (hd : ∀ d, o.dst = some d → d < G.n) (hk : opK P T s o K) : ∃ s', K s' ∧ Effects P G s o s' := by
  unfold opK at hk
  split at hk
  · rename_i c ho
    split at hk
    · rename_i hn
      split at hk
      · rename_i d hdst
        refine nil_sound ?_ ho hdst (hd d hdst) hn hk
        split
        · exact .inr ⟨_, _, rfl⟩
        · exact .inl rfl
      · exact hk.elim
    · exact val_eff hT hd (by rw [ho]; exact hk)
  · rename_i t ho
    split at hk
    · rename_i d hdst
      exact alloc_sound hT ho hdst (hd d hdst) hk
    · exact hk.elim
  · rename_i t x ho
    split at hk
    · rename_i d hdst
      exact box_sound ho hdst (hd d hdst) hk
    · exact hk.elim
  · rename_i t l c ho
    split at hk
    · rename_i hdst hk1 hl hc
      obtain ⟨h1, h2, hk⟩ := hk
      split at hk
      · rename_i z hz
        obtain ⟨h3, h4, h5, h6, hk⟩ := hk
        exact make_sound hT ho hdst (hd _ hdst) h1 hk1 hl hc h2 hz h3 h4 h5 h6 hk
      · exact hk.elim
    · exact hk.elim
  · rename_i t n parts ho
    split at hk
    · rename_i d hdst
      exact build_sound hT ho hdst (hd d hdst) hk
    · exact hk.elim
  · rename_i t ad x ho
    exact store_sound hT ho hk.1 hk.2
  · rename_i t parts ho
    obtain ⟨p, hp, hy⟩ := buildV_sound (G := G) hT ho hk
    exact ⟨_, hp, hy.effects hd⟩
  · rename_i t x lo hi mx ho
    split at hk
    · rename_i k ver hev
      split at hk
      · have hk' : valK T (s.freeze [k]).rw (s.freeze [k]).ev o.op fun p => K ((s.freeze [k]).put o.dst p) := hk
        obtain ⟨s', h1, h2⟩ := val_eff (G := G) hT hd hk'
        exact ⟨s', h1, h2.wk (Wk.freeze s [k])⟩
      · exact val_eff hT hd hk
    · exact val_eff hT hd hk
  · rename_i c ho
    split at hk
    · rename_i hc
      split at hk
      · rename_i x y t t2 d ha ht hdst
        refine append_sound hT (x := x) (y := y) ?_ hdst (hd d hdst) hk
        rw [ho]
        obtain ⟨c1, c2, c3⟩ := c
        simp only at hc ha ht
        rw [hc, ha, ht]
      · exact hk.elim
    · rename_i f hc
      rcases hk with hk | hk
      case inr => exact callM_sound ho hc hd hk
      split at hk
      · rename_i d hdst
        exact call_sound ho hc hdst (hd d hdst) hk
      · rename_i hdst
        obtain ⟨rv, hk, h⟩ := call_wp (G := G) ho hc hk
        refine ⟨_, hk, fun a w ⟨E, hs⟩ K' Q hK => h E a w hs.rw hs.wok (fun x _ => eval_rep hs.slots x) K' Q fun v w' lv hx _ _ => ?_⟩
        rw [hdst]
        exact hK _ _ ⟨E, hs.ext hx⟩
    · exact val_eff hT hd hk
  · exact val_eff hT hd hk

/-- A slice that is held against nil: false where cells stand, either where none. -/
def nilCmpK (T : Tab) (rw : Nat → Row) (t : TypeId) (x : PV) (K : Bool → Prop) : Prop :=
  0 < (T t).size ∧ match (T t).k with
  | .sli _ => slK rw x fun _ _ c => K false ∧ (c = [] → K true)
  | _ => False

/-- An operation, the test for nil among them. -/
def op2K (P : Program) (T : Tab) (s : St) (o : Oper) (K : St → Prop) : Prop :=
  match o.op with
  | .binOp .eql t x (.const (.slice none 0 0)) _ => nilCmpK T s.rw t (s.ev x) fun b => K (s.put o.dst (.v (.bool b)))
  | .binOp .neq t x (.const (.slice none 0 0)) _ => nilCmpK T s.rw t (s.ev x) fun b => K (s.put o.dst (.v (.bool !b)))
  | _ => opK P T s o K

theorem eqIn_slice_nil {P : Program} (w : World) (d : Nat) {t e : TypeId} (a : Option Addr) (n c n' c' : Nat) (h : P.underlying t = some (.slice e)) :
    (Op.equalIn (d + 1) t (.slice a n c) (.slice none n' c')).run P w = .ok a.isNone w := by
  cases a <;> simp [Op.equalIn, run_underlying h]
theorem eq_slice_nil {P : Program} (w : World) {t e : TypeId} (a : Option Addr) (n c n' c' : Nat) (h : P.underlying t = some (.slice e)) :
    (Op.equal t (.slice a n c) (.slice none n' c')).run P w = .ok a.isNone w := eqIn_slice_nil w 9999 a n c n' c' h

theorem nilCmp_sound (hT : T.Ok P) {t : TypeId} {x : PV} {K : Bool → Prop} (hk : nilCmpK T s.rw t x K) {E : Env} {w : World} (hR : E.R = s.rw) (hw : WOk G E w) {v : Value} (hp : Rep w E 0 x v) :
    ∃ b, K b ∧ (Op.equal t v (.slice none 0 0)).run P w = .ok b w ∧ ∃ a l c, v = .slice a l c := by
  obtain ⟨hz, hk⟩ := hk
  split at hk
  · rename_i e he
    have hu := (hT t hz).k
    rw [he] at hu
    obtain ⟨fr, sz, c, ⟨h1, h2⟩, a, len, cap, cs, rfl, hl, hc, hm, hcell⟩ := slK_sound hk hR hw hp
    have hu' : P.underlying t = some (.slice e) := hu
    cases a with
    | some b => exact ⟨false, h1, eq_slice_nil w _ _ _ _ _ hu', _, _, _, rfl⟩
    | none =>
      have : c = [] := by
        cases c with
        | nil => rfl
        | cons p ps => obtain ⟨b, o, h, _⟩ := hcell 0 (by simp); cases h
      exact ⟨true, h2 this, eq_slice_nil w _ _ _ _ _ hu', _, _, _, rfl⟩
  · exact hk.elim

theorem op2_sound (hT : T.Ok P) {K : St → Prop} (hd : ∀ d, o.dst = some d → d < G.n) (hk : op2K P T s o K) {a : Act} {w : World} (hs : Sim G s a w) {K' : Act → World → Prop} {Q : Exit → Act → World → Prop}
    (hK : ∀ s' a' w', K s' → Sim G s' a' w' → K' a' w') : o.wp P a w K' Q := by
  unfold op2K at hk
  split at hk
  · rename_i t x t2 ho
    obtain ⟨E, hs⟩ := hs
    obtain ⟨b, hb, hrun, a1, l1, c1, hv⟩ := nilCmp_sound (G := G) hT hk hs.rw hs.wok (eval_rep hs.slots x)
    refine wp_of_value (v := .bool b) (w' := w) ?_ (hK _ _ _ hb ⟨E, hs.put hd (.v _)⟩)
    have ec : a.eval (.const (.slice none 0 0)) = .slice none 0 0 := rfl
    rw [hv] at hrun
    simp [execOp, ho, hv, ec, eqGuard, binOp, hrun]
  · rename_i t x t2 ho
    obtain ⟨E, hs⟩ := hs
    obtain ⟨b, hb, hrun, a1, l1, c1, hv⟩ := nilCmp_sound (G := G) hT hk hs.rw hs.wok (eval_rep hs.slots x)
    refine wp_of_value (v := .bool !b) (w' := w) ?_ (hK _ _ _ hb ⟨E, hs.put hd (.v _)⟩)
    have ec : a.eval (.const (.slice none 0 0)) = .slice none 0 0 := rfl
    rw [hv] at hrun
    simp [execOp, ho, hv, ec, eqGuard, binOp, hrun]
  · obtain ⟨s', hk2, he⟩ := op_sound (G := G) hT hd hk
    exact he a w hs _ _ fun a' w' h' => hK s' a' w' hk2 h'

end

/-! ### a region in the order of the text -/

/-- An operation under its guard. -/
def guardK (ops : Array Oper) (s : St) (o : Oper) (K1 K2 : St → Prop) : Prop :=
  match o.guard with
  | none => K1 s
  | some (j, want) =>
    match (ops[j]?).bind (·.dst) with
    | some d => (match s.sl d with | .v (.bool b) => (b = want → K1 (s.put (some d) (.v (.bool want)))) ∧ (b = !want → K2 ((s.put (some d) (.v (.bool !want))).put o.dst (.v undef))) | .v (.tuple _) => K2 (s.put o.dst (.v undef)) | _ => False)
    | none => False

def opsK (P : Program) (T : Tab) (ops : Array Oper) : List Oper → St → (St → Prop) → Prop
  | [], s, K => K s
  | o :: os, s, K => guardK ops s o (fun s1 => op2K P T s1 o fun s2 => opsK P T ops os s2 K) (fun s2 => opsK P T ops os s2 K)

theorem put_self {G : Ghost} {s : St} {d : Nat} {p : PV} {a : Act} {w : World} (h : s.sl d = p) (hs : Sim G s a w) : Sim G (s.put (some d) p) a w := by
  obtain ⟨E, hs⟩ := hs
  refine ⟨E, hs.rw, hs.wok, hs.size, hs.defers, fun i => ?_⟩
  simp only [St.put]
  by_cases hi : i = d
  · subst hi; rw [if_pos rfl, ← h]; exact hs.slots i
  · rw [if_neg hi]; exact hs.slots i

theorem put_junk {G : Ghost} {s : St} {dst : Option Nat} {a : Act} {w : World} (hd : ∀ d, dst = some d → d < G.n) (hs : Sim G s a w) : Sim G (s.put dst (.v undef)) (a.put dst undef) w := by
  obtain ⟨E, hs⟩ := hs
  exact ⟨E, hs.put hd (.v undef)⟩
theorem yielded_tuple {ops : Array Oper} {tmps : Array Value} {j d : Nat} {cs : Array Value} (hdj : (ops[j]?).bind (·.dst) = some d) (hval : tmps.getD d undef = .tuple cs) : yielded ops tmps j = none := by
  unfold yielded
  rw [hdj]
  rw [Array.getD_eq_getD_getElem?] at hval
  cases h : tmps[d]? with
  | none => simp [h]
  | some x => rw [h] at hval; simp at hval; subst hval; simp [h]

section
variable {P : Program} {T : Tab} {G : Ghost}

theorem ops_sound (hT : T.Ok P) {ops : Array Oper} {Q : Exit → Act → World → Prop} : ∀ (l : List Oper) (s : St) (K : St → Prop), (∀ o ∈ l, ∀ d, o.dst = some d → d < G.n) → opsK P T ops l s K →
    (∀ s' a' w', K s' → Sim G s' a' w' → Q .normal a' w') → ∀ a w, Sim G s a w → wpList P ops Q l a w := by
  intro l
  induction l with
  | nil => intro s K _ hk hQ a w hs; exact hQ s a w hk hs
  | cons o os ih =>
    intro s K hd hk hQ a w hs
    have hd0 := hd o (by simp)
    have run : ∀ s1, Sim G s1 a w → (op2K P T s1 o fun s2 => opsK P T ops os s2 K) → o.wp P a w (wpList P ops Q os) Q := fun s1 hs1 hk =>
      op2_sound hT hd0 hk hs1 fun s2 a' w' hk2 h' => ih s2 K (fun o ho => hd o (by simp [ho])) hk2 hQ a' w' h'
    simp only [wpList]
    simp only [opsK, guardK] at hk
    cases hg : o.guard with
    | none =>
      simp only [hg] at hk
      rw [if_pos (by simp [Region.wanted, hg])]
      exact .inl (run s hs hk)
    | some jw =>
      obtain ⟨j, want⟩ := jw
      simp only [hg] at hk
      split at hk
      · rename_i d hdj
        split at hk
        · rename_i b hb
          have hval : a.tmps.getD d undef = .bool b := by
            obtain ⟨E, hs⟩ := hs
            have := hs.slots d
            rw [hb] at this
            exact this.v_eq
          have hy : yielded ops a.tmps j = some b := by
            have hsz : a.tmps[d]? = some (.bool b) := by
              rw [Array.getD_eq_getD_getElem?] at hval
              cases h : a.tmps[d]? with
              | none => rw [h] at hval; simp [undef] at hval
              | some x => rw [h] at hval; simp at hval; rw [hval]
            simp [yielded, hdj, hsz]
          by_cases hbw : b = want
          · rw [if_pos (by simp [Region.wanted, hg, hy, hbw])]
            exact .inl (run _ (put_self (by rw [hb, hbw]) hs) (hk.1 hbw))
          · have hbw' : b = !want := by cases b <;> cases want <;> simp_all
            rw [if_neg (by simp [Region.wanted, hg, hy, hbw])]
            have h1 := put_self (d := d) (p := .v (.bool !want)) (by rw [hb, hbw']) hs
            exact ih _ K (fun o ho => hd o (by simp [ho])) (hk.2 hbw') hQ _ w (put_junk hd0 h1)
        · rename_i cs hb
          have hval : a.tmps.getD d undef = .tuple cs := by
            obtain ⟨E, hs⟩ := hs
            have := hs.slots d
            rw [hb] at this
            exact this.v_eq
          rw [if_neg (by simp [Region.wanted, hg, yielded_tuple hdj hval])]
          exact ih _ K (fun o ho => hd o (by simp [ho])) hk hQ _ w (put_junk hd0 hs)
        · exact hk.elim
      · exact hk.elim

end
end Go.Abs
