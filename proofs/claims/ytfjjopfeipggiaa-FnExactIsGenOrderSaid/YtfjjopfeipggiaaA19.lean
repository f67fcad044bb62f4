/- DERIVED by an AI agent. A slice written out; a slice cut off a row; all operations together. No program in sight. -/
import Derived.Test.YtfjjopfeipggiaaA18
namespace Go.Abs
set_option linter.unusedSimpArgs false

def pureL (rw : Nat → Row) (es : Nat) : List PV → (List PV → List Nat → Prop) → Prop
  | [], K => K [] []
  | p :: ps, K => pureK rw p fun c f => c.length = es ∧ pureL rw es ps fun cs fs => K (c ++ cs) (f ++ fs)

theorem pureK_det {rw : Nat → Row} {p : PV} {K : List PV → List Nat → Prop} (hk : pureK rw p K) : ∃ c f, K c f ∧ pureK rw p (fun a b => a = c ∧ b = f) := by
  unfold pureK at hk ⊢
  split at hk
  · exact ⟨_, _, hk.2, hk.1, rfl, rfl⟩
  · exact ⟨_, _, hk.2, hk.1, rfl, rfl⟩
  · obtain ⟨q1, q2, hk⟩ := hk
    split at hk
    · exact ⟨_, _, hk, q1, q2, rfl, rfl⟩
    · exact ⟨_, _, hk, q1, q2, rfl, rfl⟩
    · exact hk.elim
  · exact ⟨_, _, hk.2, hk.1, rfl, rfl⟩
  · exact hk.elim

/-- Each of the values, as cells. -/
inductive PureR (rw : Nat → Row) (es : Nat) : List PV → List PV → List Nat → Prop
  | nil : PureR rw es [] [] []
  | cons {p : PV} {ps c cs : List PV} {f fs : List Nat} (h : pureK rw p (fun a b => a = c ∧ b = f)) (hl : c.length = es) (hs : PureR rw es ps cs fs) : PureR rw es (p :: ps) (c ++ cs) (f ++ fs)

theorem pureL_det {rw : Nat → Row} {es : Nat} : ∀ {ps : List PV} {K : List PV → List Nat → Prop}, pureL rw es ps K → ∃ c f, K c f ∧ PureR rw es ps c f := by
  intro ps
  induction ps with
  | nil => intro K h; exact ⟨_, _, h, .nil⟩
  | cons p ps ih =>
    intro K h
    obtain ⟨c, f, ⟨hl, h⟩, hp⟩ := pureK_det h
    obtain ⟨cs, fs, h, hs⟩ := ih h
    exact ⟨_, _, h, .cons hp hl hs⟩

theorem PureR.sound {G : Ghost} {w : World} {E : Env} (hw : WOk G E w) {es : Nat} {ps c : List PV} {f : List Nat} (h : PureR E.R es ps c f) : ∀ {us : List Value}, RepL w E 0 ps us →
    c.length = ps.length * es ∧ (∀ u ∈ us, u.cells.size = es) ∧ (∀ j ∈ f, j < lent ∧ ∃ e sz fz cc, (E.R j).kind = .sli e sz fz cc) ∧
      ∀ (w' : World) (E' : Env), Lasts w w' E E' → E'.B = E.B → (∀ j ∈ f, ∀ b, E.rm j = some b → w'.heap[b]? = w.heap[b]? ∧ ¬ E'.L b) → RepL w' E'.bare E'.B c (us.map (·.cells.toList)).flatten := by
  induction h with
  | nil =>
    intro us hr
    have : us = [] := List.eq_nil_of_length_eq_zero hr.1.symm
    subst this
    exact ⟨by simp, by simp, by simp, fun _ _ _ _ _ => ⟨rfl, fun i a => absurd a (by simp)⟩⟩
  | cons hp hl hs ih =>
    intro us hr
    cases us with
    | nil => simp [RepL] at hr
    | cons u us =>
      have h0 : Rep w E 0 _ u := hr.2 0 (by simp) (by simp)
      obtain ⟨c', f', ⟨rfl, rfl⟩, hlen, h1, hfz, hrep⟩ := pureK_sound hp rfl hw h0
      obtain ⟨g1, g2, g3, g4⟩ := ih (us := us) ⟨by simpa using hr.1, fun i a b => hr.2 (i + 1) (by simpa using a) (by simpa using b)⟩
      refine ⟨by simp [g1, hl, Nat.add_mul]; omega, fun v hv => ?_, fun j hj => ?_, fun w' E' hla hB hf => ?_⟩
      · rcases List.mem_cons.1 hv with rfl | hv
        · omega
        · exact g2 v hv
      · rcases List.mem_append.1 hj with hj | hj
        · exact hfz j hj
        · exact g3 j hj
      · simp only [List.map_cons, List.flatten_cons]
        exact (hrep w' E' hla hB fun j hj => hf j (List.mem_append.2 (.inl hj))).append (g4 w' E' hla hB fun j hj => hf j (List.mem_append.2 (.inr hj)))

def buildK (T : Tab) (s : St) (d : Nat) (t : TypeId) (n : Nat) (parts : Array (Nat × Operand)) (K : St → Prop) : Prop :=
  0 < (T t).size ∧ match (T t).k with
  | .sli e => 0 < (T e).size ∧ n = parts.size ∧ idxOk 0 parts.toList = true ∧ n * (T e).size ≤ 16777216 ∧
      pureL s.rw (T e).size (parts.toList.map fun x => s.ev x.2) fun c f => d ∉ f ∧ K (((s.freeze f).row d ⟨(s.rw d).ver + 1, .sli e (T e).size false c⟩).put (some d) (.own d ((s.rw d).ver + 1)))
  | _ => False

theorem idxOk_get : ∀ (l : List (Nat × Operand)) (k : Nat), idxOk k l = true → ∀ j (h : j < l.length), l[j].1 = k + j := by
  intro l
  induction l with
  | nil => intro k _ j h; simp at h
  | cons x xs ih =>
    intro k hk j h
    obtain ⟨i, y⟩ := x
    simp only [idxOk, Bool.and_eq_true, beq_iff_eq] at hk
    cases j with
    | zero => exact hk.1
    | succ j =>
      have hj : j < xs.length := by simpa using h
      have := ih (k + 1) hk.2 j hj
      show xs[j].1 = k + (j + 1)
      omega

section
variable {P : Program} {T : Tab} {G : Ghost} {s : St} {E : Env} {a : Act} {w w' : World} {o : Oper}

theorem build_sound (hT : T.Ok P) {d : Nat} {t : TypeId} {n : Nat} {parts : Array (Nat × Operand)} {K : St → Prop} (ho : o.op = .buildSlice t n parts) (hdst : o.dst = some d) (hd : d < G.n)
    (hk : buildK T s d t n parts K) : ∃ s', K s' ∧ Effects P G s o s' := by
  obtain ⟨ht, hk⟩ := hk
  split at hk
  · rename_i e hte
    obtain ⟨he, rfl, hidx, hbig, hk⟩ := hk
    have hu : P.underlying t = some (.slice e) := by have := (hT t ht).k; rw [hte] at this; exact this
    obtain ⟨i, zz, hi, hsz, hby, hz', hzl⟩ := (hT e he).info
    have hzs : zz.cells.size = (T e).size := by rw [← Array.length_toList, hzl]; exact (hT e he).zlen
    obtain ⟨c, f, ⟨hdf, hk⟩, hpure⟩ := pureL_det hk
    refine ⟨_, hk, fun a w hs K' Q hK => ?_⟩
    obtain ⟨E, hs⟩ := hs
    rw [← hs.rw] at hpure
    have hreps : RepL w E 0 (parts.toList.map fun x => s.ev x.2) (parts.toList.map fun x => a.eval x.2) := RepL.map fun x _ => eval_rep hs.slots x.2
    obtain ⟨hcl, hus, hfz, hrep⟩ := hpure.sound hs.wok hreps
    -- the run
    let us : List Value := parts.toList.map fun x => a.eval x.2
    have hrun : (execOp a.eval o).run P w = .ok (.value (.slice (some ⟨w.heap.size, 0, none⟩) parts.size parts.size)) (w.alloc (.cells ((us.map fun u : Value => u.cells.toList).flatten ++ []).toArray e)) := by
      rw [List.append_nil]
      have hnb : ¬ (16777216 < parts.size * i.size) := by rw [hsz]; omega
      have hparts : (parts.map fun x => (x.1, a.eval x.2)).toList = parts.toList.map fun x => (x.1, a.eval x.2) := by simp
      have hfillz : ∀ zc : Array Value, Instr.fill (fun j => some (j * i.size, i.size)) ((Array.range (parts.size * i.size)).map (zc[· % zc.size]!)) (parts.toList.map fun x => (x.1, a.eval x.2)) = some ((us.map fun u : Value => u.cells.toList).flatten.toArray) := by
        intro zc
        obtain ⟨out, hfill, hout⟩ := fill_at (T e).size us (parts.toList.map fun x => (x.1, a.eval x.2)) 0 ((Array.range (parts.size * i.size)).map (zc[· % zc.size]!))
          (by simp [us]) (fun j h => by
            have hj : j < parts.toList.length := by simpa using h
            have := idxOk_get parts.toList 0 hidx j hj
            simpa using this) (fun v hv => hus v hv) (by simp [us, hsz])
        have hflat : out.toList = (us.map fun u : Value => u.cells.toList).flatten := by
          rw [hout]; simp [us, hsz]
        simp only [hsz] at hfill ⊢
        rw [hfill, ← hflat]
      by_cases h0 : parts.size * i.size = 0
      · have := hfillz #[]
        simp [execOp, ho, Instr.buildSlice, run_underlying hu, sizeOf, typeInfo, hi, hnb, h0, hparts, newRow] at this ⊢
        simp [this]
      · have := hfillz zz.cells
        simp [execOp, ho, Instr.buildSlice, run_underlying hu, sizeOf, typeInfo, zeroValue, hi, hz', hnb, h0, hparts, newRow, this]
    have hnew : ∀ (o' : Obj), (w.alloc o').heap[w.heap.size]? = some o' := fun o' => heap_alloc_new w o'
    have hlen : (us.map fun u : Value => u.cells.toList).flatten.length = parts.size * (T e).size := by
      have h1 : ∀ (l : List Value), (∀ u ∈ l, u.cells.size = (T e).size) → (l.map fun u : Value => u.cells.toList).flatten.length = l.length * (T e).size := by
        intro l
        induction l with
        | nil => intro _; simp
        | cons x xs ih =>
          intro h
          have := ih fun u hu => h u (by simp [hu])
          simp only [List.map_cons, List.flatten_cons, List.length_append, this, List.length_cons, Nat.add_mul, Nat.one_mul, Array.length_toList, h x (by simp)]
          omega
      rw [h1 us hus]; simp [us]
    have hturn : OneTurn E w (w.alloc (.cells ((us.map fun u : Value => u.cells.toList).flatten ++ []).toArray e)) d ⟨(s.rw d).ver + 1, .sli e (T e).size false c⟩ (some w.heap.size) (.slice (some ⟨w.heap.size, 0, none⟩) parts.size parts.size) :=
      ⟨fun b hb _ => (Ext.alloc w _).block b hb, fun b hb _ => .inl (by simp at hb; omega), by rw [hs.rw]; exact Nat.le_succ _, fun h => by rw [hs.rw] at h; simp at h, fun h => by rw [hs.rw] at h; simp at h, fun _ => Nat.succ_pos _, by simp, rfl, rfl, rfl⟩
    have hne : ∀ j ∈ f, j ≠ d := fun j hj e => hdf (e ▸ hj)
    have hmax : parts.size ≤ maxLen := by
      have : parts.size ≤ parts.size * (T e).size := Nat.le_mul_of_pos_right _ he
      simp [maxLen]; omega
    refine eff_turn (fz := f) (p := .own d ((s.rw d).ver + 1)) hs hrun hturn hne (fun hl => ?_) ?_ (by simp [hdst, hd]) (fun a' w' h => hK a' w' (by rw [hdst] at h; exact h))
    · unfold RowOk
      simp only [Env.turn, updF_same]
      refine .inr ⟨w.heap.size, parts.size, parts.size, _, [], rfl, .inl hs.wok.kept.size, rfl, hnew _, hlen, Nat.le_refl _, hmax, by rw [List.append_nil]; exact hlen, ?_⟩
      refine hrep _ _ hl rfl fun j hj b hb => ?_
      obtain ⟨q1, e', sz', fz', cc, q2⟩ := hfz j hj
      have hbs := (hs.wok.block hb (by rw [q2]; rfl)).1
      refine ⟨(Ext.alloc w _).block b hbs, fun hL => ?_⟩
      obtain ⟨j', r1, r2⟩ := hL
      by_cases hj' : j' = d
      · subst hj'
        simp only [updF_same] at r1
        simp at r1; omega
      · simp only [updF_other _ _ hj'] at r1 r2
        have r3 : (E.R j').kind.live = true := by
          unfold frzF at r2; split at r2
          · exact frz_live _ r2
          · exact r2
        have := hs.wok.inj j j' b (by rw [q2]; rfl) (RK.nd_of_live r3) hb r1
        subst this
        unfold frzF at r2
        rw [if_pos hj] at r2
        simp [frz, q2, RK.live] at r2
    · exact .own (by simp [Env.turn, updF_same]) fun _ _ => by simp [Env.turn, updF_same]
  · exact hk.elim

end
end Go.Abs
