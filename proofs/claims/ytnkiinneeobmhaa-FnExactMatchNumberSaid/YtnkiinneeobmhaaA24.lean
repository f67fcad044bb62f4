/- DERIVED by an AI agent. What a region that draws its order asks. No program in sight. -/
import Derived.Test.YtnkiinneeobmhaaA23
namespace Go.Abs
set_option linter.unusedSimpArgs false

/-- A region that draws: operations that turn rows by their own step, the others only read. -/
def drawK (P : Program) (T : Tab) (ops : Array Oper) : List Oper → St → (St → Prop) → Prop
  | [], s, K => K s
  | o :: os, s, K => guardK ops s o
      (fun s1 => match isW o with
        | true => opK P T s1 o fun s2 => drawK P T ops os s2 K
        | false => quietK P T s1.rw s1.ev o.op fun p => drawK P T ops os (s1.put o.dst p) K)
      (fun s2 => drawK P T ops os s2 K)

section
variable {P : Program} {T : Tab} {G : Ghost} {ops : Array Oper}

theorem valK_det {rw : Nat → Row} {ev : Operand → PV} {op : Op} {K : PV → Prop} (h : valK T rw ev op K) : ∃ p, K p ∧ ∀ K' : PV → Prop, K' p → valK T rw ev op K' := by
  unfold valK at h ⊢
  split at h
  · exact ⟨_, h, fun _ h => h⟩
  · exact ⟨_, h, fun _ h => h⟩
  · split at h
    · rename_i t _
      cases t with
      | true => exact ⟨_, h.1 rfl, fun _ h' => ⟨fun _ => h', fun h => by cases h⟩⟩
      | false => exact ⟨_, h.2 rfl, fun _ h' => ⟨(fun h => by cases h), fun _ => h'⟩⟩
    · exact h.elim
  · exact binK_det h
  · exact unK_det h
  · exact convK_det h
  · obtain ⟨m, c, off, h, hd⟩ := ptrK_det h
    obtain ⟨p, hp, hl⟩ := ldK_det h
    exact ⟨p, hp, fun K' hk => hd _ (hl _ hk)⟩
  · obtain ⟨o', ft, h, hd⟩ := fieldK_det h
    obtain ⟨hptr, h⟩ := h
    obtain ⟨hk, hs⟩ := sureK_det h
    exact ⟨_, hk, fun K' hk => hd _ ⟨hptr, hs _ hk⟩⟩
  · rename_i t x f
    obtain ⟨o', ft, h, hd⟩ := fieldK_det h
    cases he : ev x with
    | ag c =>
      rw [he] at h
      obtain ⟨p, hp, hl⟩ := ldK_det h
      exact ⟨p, hp, fun K' hk => hd _ (hl _ hk)⟩
    | _ => rw [he] at h; exact h.elim
  · exact indexAddrK_det h
  · obtain ⟨hs, h⟩ := h
    split at h
    · exact ⟨_, h.2.2, fun _ hk => ⟨hs, h.1, h.2.1, hk⟩⟩
    · obtain ⟨p, hp, hl⟩ := ldK_det h.2.2
      exact ⟨p, hp, fun _ hk => ⟨hs, h.1, h.2.1, hl _ hk⟩⟩
    · exact h.elim
  · exact sliceK_det h
  · split at h
    · exact ⟨_, h.2, fun _ hk => ⟨h.1, hk⟩⟩
    · exact h.elim
  · split at h
    · exact ⟨_, h.2, fun _ hk => ⟨h.1, hk⟩⟩
    · exact h.elim
  · obtain ⟨hk, hs⟩ := sureK_det h
    exact ⟨_, hk, fun K' hk => hs _ hk⟩
  · split at h
    · exact lenK_det h
    · exact minmaxK_det h
    · exact minmaxK_det h
    · exact h.elim
  · exact h.elim

theorem quietK_det {rw : Nat → Row} {ev : Operand → PV} {op : Op} {K : PV → Prop} (h : quietK P T rw ev op K) : ∃ p, K p ∧ quietK P T rw ev op (· = p) := by
  unfold quietK at h ⊢
  split at h
  · split at h
    · unfold callK at h ⊢
      split at h
      · obtain ⟨rv, h1, h2⟩ := h
        exact ⟨_, h2, rv, h1, rfl⟩
      · exact h.elim
    · obtain ⟨p, hp, hd⟩ := valK_det h
      exact ⟨p, hp, hd _ rfl⟩
  · obtain ⟨p, hp, hd⟩ := valK_det h
    exact ⟨p, hp, hd _ rfl⟩

theorem quietK_free {rw rw' : Nat → Row} {ev : Operand → PV} {o : Oper} {K : PV → Prop} (hf : rowFree o = true) (h : quietK P T rw ev o.op K) : quietK P T rw' ev o.op K := by
  unfold rowFree at hf
  split at hf <;> first
    | (rename_i ho; rw [ho] at h ⊢; exact h)
    | cases hf

theorem map_ev {s s' : St} {l : List (Nat × Operand)} (h : ∀ x ∈ l, s'.ev x.2 = s.ev x.2) : (l.map fun x => s'.ev x.2) = l.map fun x => s.ev x.2 := List.map_congr_left h

/-- An operation that turns rows looks at its operands and the rows alone. -/
theorem write_local (hT : T.Ok P) {s : St} {o : Oper} {K : St → Prop} (hw : isW o = true) (hd : ∀ d, o.dst = some d → d < G.n) (hk : opK P T s o K) :
    ∃ x : PV × RowsF, K (s.step o x) ∧ ∀ s' : St, s'.rw = s.rw → (∀ y ∈ o.op.operands, s'.ev y = s.ev y) → Effects P G s' o (s'.step o x) := by
  have fin : ∀ {s' : St} {x : PV × RowsF}, opK P T s' o (· = s'.step o x) → Effects P G s' o (s'.step o x) := fun h => by
    obtain ⟨s2, rfl, he⟩ := op_sound (G := G) hT hd h
    exact he
  unfold isW at hw
  split at hw
  · -- store
    rename_i t ad x ho
    simp only [opK, ho] at hk
    obtain ⟨hdst, ht, hk⟩ := hk
    have mk : ∀ {rw' : RowsF}, K ⟨s.sl, rw'⟩ → (∀ s' : St, s'.rw = s.rw → s'.ev ad = s.ev ad → s'.ev x = s.ev x → storeK T s' t (s'.ev ad) (s'.ev x) (· = ⟨s'.sl, rw'⟩)) →
        ∃ x : PV × RowsF, K (s.step o x) ∧ ∀ s' : St, s'.rw = s.rw → (∀ y ∈ o.op.operands, s'.ev y = s.ev y) → Effects P G s' o (s'.step o x) := fun {rw'} h1 h2 => by
      have e : ∀ s' : St, s'.step o (.junk, rw') = ⟨s'.sl, rw'⟩ := fun s' => by unfold St.step St.put; rw [hdst]
      refine ⟨(.junk, rw'), by rw [e]; exact h1, fun s' hr hev => fin ?_⟩
      rw [e]
      simp only [opK, ho]
      exact ⟨hdst, h2 s' hr (hev _ (by simp [ho, Op.operands])) (hev _ (by simp [ho, Op.operands]))⟩
    split at hk
    · rename_i k ver off hev
      obtain ⟨hver, hk⟩ := hk
      split at hk
      · rename_i bt c hkind
        obtain ⟨new, hc, h1, h2, h3, hk⟩ : ∃ new, cellsK s.rw (s.ev x) (· = new) ∧ new.length = (T t).size ∧ off + new.length ≤ c.length ∧ (∀ p ∈ new, oneP s.rw p) ∧ K (s.row k ⟨ver, .box bt (spl c off new)⟩) := by
          unfold cellsK at hk ⊢
          split at hk <;> first
            | exact ⟨_, rfl, hk⟩
            | exact ⟨_, ⟨hk.1, rfl⟩, hk.2⟩
            | exact ⟨_, ⟨hk.1, hk.2.1, rfl⟩, hk.2.2⟩
            | exact hk.elim
        refine mk (rw' := fun i => if i = k then ⟨ver, .box bt (spl c off new)⟩ else s.rw i) hk fun s' hr e1 e2 => ?_
        refine ⟨ht, ?_⟩
        rw [e1, hev, e2]
        simp only [hr]
        refine ⟨hver, ?_⟩
        simp only [hkind]
        unfold cellsK at hc ⊢
        split at hc <;> first
          | exact hc.elim
          | (subst hc; exact ⟨h1, h2, h3, by unfold St.row; rw [hr]⟩)
          | (obtain ⟨q1, rfl⟩ := hc; exact ⟨q1, h1, h2, h3, by unfold St.row; rw [hr]⟩)
          | (obtain ⟨q1, q2, rfl⟩ := hc; exact ⟨q1, q2, h1, h2, h3, by unfold St.row; rw [hr]⟩)
      · rename_i e sz c hkind
        obtain ⟨new, fz, ⟨h1, h2, h3, hk⟩, hc⟩ := pureK_det hk
        refine mk (rw' := fun i => if i = k then ⟨ver, .sli e sz false (spl c off new)⟩ else frzF s.rw fz i) hk fun s' hr e1 e2 => ?_
        refine ⟨ht, ?_⟩
        rw [e1, hev, e2]
        simp only [hr]
        refine ⟨hver, ?_⟩
        simp only [hkind]
        have e3 : (s'.freeze fz).row k ⟨ver, .sli e sz false (spl c off new)⟩ = ⟨s'.sl, fun i => if i = k then ⟨ver, .sli e sz false (spl c off new)⟩ else frzF s.rw fz i⟩ := by
          unfold St.row St.freeze; rw [hr]
        unfold pureK at hc ⊢
        split at hc
        · obtain ⟨q1, rfl, rfl⟩ := hc; exact ⟨q1, h1, h2, h3, e3⟩
        · obtain ⟨q1, rfl, rfl⟩ := hc; exact ⟨q1, h1, h2, h3, e3⟩
        · obtain ⟨q1, q2, hc⟩ := hc
          refine ⟨q1, q2, ?_⟩
          split at hc
          · obtain ⟨rfl, rfl⟩ := hc; exact ⟨h1, h2, h3, e3⟩
          · obtain ⟨rfl, rfl⟩ := hc; exact ⟨h1, h2, h3, e3⟩
          · exact hc.elim
        · obtain ⟨q1, rfl, rfl⟩ := hc; exact ⟨q1, h1, h2, h3, e3⟩
        · exact hc.elim
      · exact hk.elim
    · exact hk.elim
  · -- alloc
    rename_i t ho
    simp only [opK, ho] at hk
    split at hk
    · rename_i d hdst
      obtain ⟨h1, hk⟩ := hk
      have e : ∀ s' : St, s'.rw = s.rw → s'.step o (.ref d ((s.rw d).ver + 1) 0, fun i => if i = d then ⟨(s.rw d).ver + 1, .box t ((T t).zero.map PV.v)⟩ else s.rw i) = newSt s' d (.box t ((T t).zero.map PV.v)) fun v => .ref d v 0 := fun s' hr => by
        unfold St.step newSt St.row; rw [hdst, hr]
      refine ⟨(.ref d ((s.rw d).ver + 1) 0, fun i => if i = d then ⟨(s.rw d).ver + 1, .box t ((T t).zero.map PV.v)⟩ else s.rw i), by rw [e s rfl]; exact hk, fun s' hr _ => fin ?_⟩
      rw [e s' hr]
      simp only [opK, ho, hdst]
      exact ⟨h1, trivial⟩
    · exact hk.elim
  · -- box
    rename_i t x ho
    simp only [opK, ho] at hk
    split at hk
    · rename_i d hdst
      obtain ⟨new, hc, hk⟩ : ∃ new, cellsK s.rw (s.ev x) (· = new) ∧ K (newSt s d (.box t new) fun v => .ref d v 0) := by
        unfold cellsK at hk ⊢
        split at hk <;> first
          | exact ⟨_, rfl, hk⟩
          | exact ⟨_, ⟨hk.1, rfl⟩, hk.2⟩
          | exact ⟨_, ⟨hk.1, hk.2.1, rfl⟩, hk.2.2⟩
          | exact hk.elim
      have e : ∀ s' : St, s'.rw = s.rw → s'.step o (.ref d ((s.rw d).ver + 1) 0, fun i => if i = d then ⟨(s.rw d).ver + 1, .box t new⟩ else s.rw i) = newSt s' d (.box t new) fun v => .ref d v 0 := fun s' hr => by
        unfold St.step newSt St.row; rw [hdst, hr]
      refine ⟨(.ref d ((s.rw d).ver + 1) 0, fun i => if i = d then ⟨(s.rw d).ver + 1, .box t new⟩ else s.rw i), by rw [e s rfl]; exact hk, fun s' hr hev => fin ?_⟩
      rw [e s' hr]
      simp only [opK, ho, hdst]
      rw [hev x (by simp [ho, Op.operands]), hr]
      unfold cellsK at hc ⊢
      split at hc <;> first
        | exact hc.elim
        | (subst hc; rfl)
        | (obtain ⟨q1, rfl⟩ := hc; exact ⟨q1, rfl⟩)
        | (obtain ⟨q1, q2, rfl⟩ := hc; exact ⟨q1, q2, rfl⟩)
    · exact hk.elim
  · -- makeSlice
    rename_i t l c ho
    simp only [opK, ho] at hk
    split at hk
    · rename_i d e kl nl kc nc hdst hte hl hc
      obtain ⟨h1, h2, hk⟩ := hk
      split at hk
      · rename_i z hz
        obtain ⟨h3, h4, h5, h6, hk⟩ := hk
        have e' : ∀ s' : St, s'.rw = s.rw → s'.step o (.own d ((s.rw d).ver + 1), fun i => if i = d then ⟨(s.rw d).ver + 1, .sli e 1 false (List.replicate nl.toNat (.v z))⟩ else s.rw i) = newSt s' d (.sli e 1 false (List.replicate nl.toNat (.v z))) fun v => .own d v := fun s' hr => by
          unfold St.step newSt St.row; rw [hdst, hr]
        refine ⟨(.own d ((s.rw d).ver + 1), fun i => if i = d then ⟨(s.rw d).ver + 1, .sli e 1 false (List.replicate nl.toNat (.v z))⟩ else s.rw i), by rw [e' s rfl]; exact hk, fun s' hr hev => fin ?_⟩
        rw [e' s' hr]
        simp only [opK, ho, hdst, hte, hev l (by simp [ho, Op.operands]), hev c (by simp [ho, Op.operands]), hl, hc]
        refine ⟨h1, h2, ?_⟩
        simp only [hz]
        exact ⟨h3, h4, h5, h6, trivial⟩
      · exact hk.elim
    · exact hk.elim
  · -- buildSlice
    rename_i t n parts ho
    simp only [opK, ho] at hk
    split at hk
    · rename_i d hdst
      unfold buildK at hk
      obtain ⟨ht, hk⟩ := hk
      split at hk
      · rename_i e hte
        obtain ⟨he, hn, hidx, hbig, hk⟩ := hk
        obtain ⟨c, f, ⟨hdf, hk⟩, hp⟩ := pureL_det hk
        have e' : ∀ s' : St, s'.rw = s.rw → s'.step o (.own d ((s.rw d).ver + 1), fun i => if i = d then ⟨(s.rw d).ver + 1, .sli e (T e).size false c⟩ else frzF s.rw f i) =
            ((s'.freeze f).row d ⟨(s'.rw d).ver + 1, .sli e (T e).size false c⟩).put (some d) (.own d ((s'.rw d).ver + 1)) := fun s' hr => by
          unfold St.step St.row St.freeze; rw [hdst, hr]
        refine ⟨(.own d ((s.rw d).ver + 1), fun i => if i = d then ⟨(s.rw d).ver + 1, .sli e (T e).size false c⟩ else frzF s.rw f i), by rw [e' s rfl]; exact hk, fun s' hr hev => fin ?_⟩
        rw [e' s' hr]
        simp only [opK, ho, hdst]
        refine ⟨ht, ?_⟩
        simp only [hte]
        refine ⟨he, hn, hidx, hbig, ?_⟩
        have hm : (parts.toList.map fun x => s'.ev x.2) = parts.toList.map fun x => s.ev x.2 := map_ev fun x hx => hev _ (by
          simp only [ho, Op.operands, List.mem_toArray, List.mem_map]; exact ⟨x, hx, rfl⟩)
        rw [hm, hr]
        clear hk hm
        have back : ∀ {ps c : List PV} {f : List Nat}, PureR s.rw (T e).size ps c f → ∀ {K' : List PV → List Nat → Prop}, K' c f → pureL s.rw (T e).size ps K' := by
          intro ps c f hp
          induction hp with
          | nil => intro K' h; exact h
          | cons hp hl hs ih =>
            intro K' h
            unfold pureL
            unfold pureK at hp ⊢
            split at hp
            · obtain ⟨q1, rfl, rfl⟩ := hp; exact ⟨q1, hl, ih h⟩
            · obtain ⟨q1, rfl, rfl⟩ := hp; exact ⟨q1, hl, ih h⟩
            · obtain ⟨q1, q2, hp⟩ := hp
              refine ⟨q1, q2, ?_⟩
              split at hp
              · obtain ⟨rfl, rfl⟩ := hp; exact ⟨hl, ih h⟩
              · obtain ⟨rfl, rfl⟩ := hp; exact ⟨hl, ih h⟩
              · exact hp.elim
            · obtain ⟨q1, rfl, rfl⟩ := hp; exact ⟨q1, hl, ih h⟩
            · exact hp.elim
        exact back hp ⟨hdf, rfl⟩
      · exact hk.elim
    · exact hk.elim
  · -- append
    rename_i c ho
    split at hw
    · rename_i hc
      simp only [opK, ho, hc] at hk
      split at hk
      · rename_i x y t t2 d hargs hty hdst
        have hmem : ∀ z, z = x ∨ z = y → z ∈ o.op.operands := fun z hz => by
          simp only [ho, Op.operands, Call.operands, hc, hargs]
          rcases hz with rfl | rfl <;> simp
        unfold appendK at hk
        obtain ⟨rfl, ht, hk⟩ := hk
        split at hk
        · rename_i e hte
          obtain ⟨he, hby, hk⟩ := hk
          obtain ⟨fr, sz, news, ⟨hsz, hfr, hk⟩, hdet⟩ := slK_det hk
          have mk : ∀ {p : PV} {rw' : RowsF}, K ((St.mk s.sl rw').put (some d) p) → (∀ s' : St, s'.rw = s.rw → s'.ev x = s.ev x →
              (match s'.ev x with
                | .v u => isNil u = true ∧ news.length * (T e).bytes ≤ 140737488355328 ∧ newSt s' d (.sli e (T e).size false news) (fun v => .own d v) = (St.mk s'.sl rw').put (some d) p
                | .own k ver => (s'.rw k).ver = ver ∧ (match (s'.rw k).kind with
                    | .nil => news.length * (T e).bytes ≤ 140737488355328 ∧ appSt s' d k (.sli e (T e).size false news) = (St.mk s'.sl rw').put (some d) p
                    | .sli e' sz' false c => e' = e ∧ sz' = (T e).size ∧ (c.length + news.length) * (T e).bytes ≤ 140737488355328 ∧ appSt s' d k (.sli e (T e).size false (c ++ news)) = (St.mk s'.sl rw').put (some d) p
                    | _ => False)
                | _ => False)) →
              ∃ x : PV × RowsF, K (s.step o x) ∧ ∀ s' : St, s'.rw = s.rw → (∀ y ∈ o.op.operands, s'.ev y = s.ev y) → Effects P G s' o (s'.step o x) := fun {p rw'} h1 h2 => by
            have e1 : ∀ s' : St, s'.step o (p, rw') = (St.mk s'.sl rw').put (some d) p := fun s' => by unfold St.step; rw [hdst]
            refine ⟨(p, rw'), by rw [e1]; exact h1, fun s' hr hev => fin ?_⟩
            rw [e1]
            simp only [opK, ho, hc, hargs, hty, hdst]
            refine ⟨rfl, ht, ?_⟩
            simp only [hte]
            refine ⟨he, hby, ?_⟩
            rw [hev y (hmem y (.inr rfl)), hr]
            refine hdet _ ⟨hsz, hfr, ?_⟩
            have := h2 s' hr (hev x (hmem x (.inl rfl)))
            rw [hr] at this
            exact this
          split at hk
          · rename_i u hev
            obtain ⟨h1, h2, hk⟩ := hk
            refine mk (p := .own d ((s.rw d).ver + 1)) (rw' := fun i => if i = d then ⟨(s.rw d).ver + 1, .sli e (T e).size false news⟩ else s.rw i) hk fun s' hr hx => ?_
            rw [hx, hev]
            exact ⟨h1, h2, by unfold newSt St.row; rw [hr]⟩
          · rename_i k ver hev
            obtain ⟨hver, hk⟩ := hk
            split at hk
            · rename_i hkind
              refine mk (p := .own k ((s.rw k).ver + 1)) (rw' := fun i => if i = k then ⟨(s.rw k).ver + 1, .sli e (T e).size false news⟩ else s.rw i) hk.2 fun s' hr hx => ?_
              rw [hx, hev]
              simp only [hr]
              refine ⟨hver, ?_⟩
              simp only [hkind]
              exact ⟨hk.1, by unfold appSt St.row; rw [hr]⟩
            · rename_i e' sz' c' hkind
              obtain ⟨h1, h2, h3, hk⟩ := hk
              refine mk (p := .own k ((s.rw k).ver + 1)) (rw' := fun i => if i = k then ⟨(s.rw k).ver + 1, .sli e (T e).size false (c' ++ news)⟩ else s.rw i) hk fun s' hr hx => ?_
              rw [hx, hev]
              simp only [hr]
              refine ⟨hver, ?_⟩
              simp only [hkind]
              exact ⟨h1, h2, h3, by unfold appSt St.row; rw [hr]⟩
            · exact hk.elim
          · exact hk.elim
        · exact hk.elim
      · exact hk.elim
    · cases hw
  · cases hw

end
end Go.Abs
