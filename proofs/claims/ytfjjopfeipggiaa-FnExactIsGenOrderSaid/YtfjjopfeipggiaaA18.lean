/- DERIVED by an AI agent. New variables, slices made and written out; all operations together. No program in sight. -/
import Derived.Test.YtfjjopfeipggiaaA17
namespace Go.Abs
set_option linter.unusedSimpArgs false

section
variable {P : Program} {T : Tab} {G : Ghost} {s : St} {E : Env} {a : Act} {w w' : World} {o : Oper}

theorem box_sound {d : Nat} {t : TypeId} {x : Operand} {K : St → Prop} (ho : o.op = .box t x) (hdst : o.dst = some d) (hd : d < G.n)
    (hk : cellsK s.rw (s.ev x) fun c => K (newSt s d (.box t c) fun v => .ref d v 0)) : ∃ s', K s' ∧ Effects P G s o s' := by
  have hdet : ∃ new, cellsK s.rw (s.ev x) (· = new) ∧ K (newSt s d (.box t new) fun v => .ref d v 0) := by
    unfold cellsK at hk ⊢
    split at hk <;> first
      | exact ⟨_, rfl, hk⟩
      | exact ⟨_, ⟨hk.1, rfl⟩, hk.2⟩
      | exact ⟨_, ⟨hk.1, hk.2.1, rfl⟩, hk.2.2⟩
      | exact hk.elim
  obtain ⟨new, hc, hk⟩ := hdet
  refine ⟨_, hk, fun a w hs K' Q hK => ?_⟩
  obtain ⟨E, hs⟩ := hs
  obtain ⟨c', rfl, hrep, _⟩ := cellsK_sound hc hs.rw hs.wok (eval_rep hs.slots x)
  refine eff_box hs hdst hd hrep ?_ hK
  simp [execOp, ho, Instr.box, newVar, newRow]

theorem alloc_sound (hT : T.Ok P) {d : Nat} {t : TypeId} {K : St → Prop} (ho : o.op = .alloc t) (hdst : o.dst = some d) (hd : d < G.n)
    (hk : 0 < (T t).size ∧ K (newSt s d (.box t ((T t).zero.map PV.v)) fun v => .ref d v 0)) : ∃ s', K s' ∧ Effects P G s o s' := by
  obtain ⟨hs, hk⟩ := hk
  obtain ⟨i, z, h1, h2, h3, h4, h5⟩ := (hT t hs).info
  refine ⟨_, hk, fun a w hs K' Q hK => ?_⟩
  obtain ⟨E, hs⟩ := hs
  refine eff_box (vs := (T t).zero) hs hdst hd ⟨by simp, fun i p q => by simp; exact .v _⟩ ?_ hK
  have e : (T t).zero.toArray = z.cells := by rw [← h5]
  simp [execOp, ho, Instr.alloc, zeroValue, typeInfo, h1, h4, newVar, newRow, e]

theorem nil_sound {d : Nat} {c : Value} {kd : RK} (hkd : kd = .nil ∨ ∃ e sz, kd = .sli e sz false []) {K : St → Prop} (ho : o.op = .assign (.const c)) (hdst : o.dst = some d) (hd : d < G.n) (hn : isNil c = true)
    (hk : K (newSt s d kd fun v => .own d v)) : ∃ s', K s' ∧ Effects P G s o s' := by
  refine ⟨_, hk, fun a w hs K' Q hK => ?_⟩
  obtain ⟨E, hs⟩ := hs
  refine eff_nil hkd hs hdst hd (Ext.refl w) ?_ hK
  simp [execOp, ho, Act.eval, isNil_eq hn]

theorem make_sound (hT : T.Ok P) {d : Nat} {t e : TypeId} {l c : Operand} {kl kc : IntKind} {nl nc : Int} {z : Value} {K : St → Prop} (ho : o.op = .makeSlice t l c) (hdst : o.dst = some d) (hd : d < G.n)
    (ht : 0 < (T t).size) (hte : (T t).k = .sli e) (hl : s.ev l = .v (.int kl nl)) (hc : s.ev c = .v (.int kc nc)) (he : (T e).size = 1) (hz : (T e).zero = [z]) (h0 : 0 ≤ nl) (h1 : nl ≤ nc) (hb : ((T e).bytes : Int) * nc ≤ 281474976710656)
    (h63 : nc ≤ 9223372036854775807) (hk : K (newSt s d (.sli e 1 false (List.replicate nl.toNat (.v z))) fun v => .own d v)) : ∃ s', K s' ∧ Effects P G s o s' := by
  have hu : P.underlying t = some (.slice e) := by have := (hT t ht).k; rw [hte] at this; exact this
  obtain ⟨i, zz, hi, hsz, hby, hz', hzl⟩ := (hT e (by omega)).info
  refine ⟨_, hk, fun a w hs K' Q hK => ?_⟩
  obtain ⟨E, hs⟩ := hs
  have el := eval_rep hs.slots l
  have ec := eval_rep hs.slots c
  rw [hl] at el; rw [hc] at ec
  have hrun := run_make (P := P) w t e i zz hu hi hz' kl kc nl nc h0 h1 (by rw [hby]; exact hb) h63
  have hzc : zz.cells = #[z] := by apply Array.toList_inj.1; rw [hzl, hz]
  have hmade : madeCells zz.cells (nc.toNat * i.size) = (List.replicate nl.toNat z ++ List.replicate (nc.toNat - nl.toNat) z).toArray := by
    rw [List.replicate_append_replicate, hsz, he, Nat.mul_one, show nl.toNat + (nc.toNat - nl.toNat) = nc.toNat by omega]
    unfold madeCells
    apply Array.ext (by simp)
    intro j h1 h2
    simp [hzc, Nat.mod_one]
  rw [hmade] at hrun
  refine eff_row (vs := List.replicate nl.toNat z) (rest := List.replicate (nc.toNat - nl.toNat) z) (n := nl.toNat) (cap := nc.toNat) (sz := 1) (e := e) hs hdst hd ⟨by simp, fun j p q => by simp; exact .v _⟩ (by simp) (by omega) (by simp [maxLen]; omega) (by simp; omega) (Ext.alloc _ _) (heap_alloc_new w _) ?_ hK
  simp [execOp, ho, el.v_eq, ec.v_eq, hrun]

/-! ### a slice written out -/

theorem foldl_set : ∀ (l : List Value) (n off : Nat) (arr : Array Value), off + n + l.length ≤ arr.size →
    ((l.zipIdx n).foldl (fun cs (x : Value × Nat) => cs.setIfInBounds (off + x.2) x.1) arr).toList = arr.toList.take (off + n) ++ l ++ arr.toList.drop (off + n + l.length) := by
  intro l
  induction l with
  | nil => intro n off arr h; simp
  | cons x xs ih =>
    intro n off arr h
    simp only [List.zipIdx_cons, List.foldl_cons]
    rw [ih (n + 1) off _ (by simp at h ⊢; omega)]
    have e := list_seg_step arr.toList (off + n) x xs (by simp at h ⊢; omega)
    simpa [Array.toList_setIfInBounds, Nat.add_assoc] using e

def idxOk : Nat → List (Nat × Operand) → Bool
  | _, [] => true
  | k, (i, _) :: r => (i == k) && idxOk (k + 1) r

theorem fill_at (sz : Nat) : ∀ (vs : List Value) (ps : List (Nat × Value)) (k : Nat) (cells : Array Value), ps.map (·.2) = vs → (∀ j (h : j < ps.length), ps[j].1 = k + j) → (∀ v ∈ vs, v.cells.size = sz) → (k + vs.length) * sz ≤ cells.size →
    ∃ out, Instr.fill (fun i => some (i * sz, sz)) cells ps = some out ∧ out.toList = cells.toList.take (k * sz) ++ (vs.map (·.cells.toList)).flatten ++ cells.toList.drop ((k + vs.length) * sz) := by
  intro vs
  induction vs with
  | nil =>
    intro ps k cells h1 _ _ _
    have : ps = [] := by simpa using h1
    subst this
    exact ⟨cells, rfl, by simp⟩
  | cons v vs ih =>
    intro ps k cells h1 h2 h3 h4
    cases ps with
    | nil => simp at h1
    | cons p ps =>
      obtain ⟨i, u⟩ := p
      simp only [List.map_cons, List.cons.injEq] at h1
      obtain ⟨rfl, h1⟩ := h1
      have hi : i = k := (h2 0 (by simp) : i = k + 0)
      subst hi
      have hv := h3 u (by simp)
      have hle : (i + (vs.length + 1)) * sz ≤ cells.size := h4
      have hmul : (i + (vs.length + 1)) * sz = i * sz + sz + vs.length * sz := by rw [Nat.add_mul, Nat.add_mul]; omega
      have hset := foldl_set u.cells.toList 0 (i * sz) cells (by simp [hv]; omega)
      have hfold : (u.cells.zipIdx.foldl (fun cs (x : Value × Nat) => cs.setIfInBounds (i * sz + x.2) x.1) cells) = (u.cells.toList.zipIdx.foldl (fun cs (x : Value × Nat) => cs.setIfInBounds (i * sz + x.2) x.1) cells) := by
        rw [← Array.foldl_toList, Array.toList_zipIdx]
      obtain ⟨out, hf, ho⟩ := ih ps (i + 1) (u.cells.toList.zipIdx.foldl (fun cs (x : Value × Nat) => cs.setIfInBounds (i * sz + x.2) x.1) cells) h1
        (fun j h => by have h3 : ps[j].1 = i + (j + 1) := h2 (j + 1) (by simpa using h); omega) (fun v hv => h3 v (by simp [hv])) (by
          rw [← Array.length_toList, hset]
          simp [hv, Nat.add_mul] at hle ⊢; omega)
      refine ⟨out, ?_, ?_⟩
      · simp only [Instr.fill]
        rw [if_neg (by simp [hv]; omega)]
        rw [hfold]
        exact hf
      · rw [ho, hset]
        have hul : u.cells.toList.length = sz := by simpa using hv
        have e1 : (i + 1) * sz = i * sz + sz := by rw [Nat.add_mul, Nat.one_mul]
        have e2 : (i + 1 + vs.length) * sz = i * sz + sz + vs.length * sz := by rw [Nat.add_mul, Nat.add_mul, Nat.one_mul]
        have hl1 : (cells.toList.take (i * sz)).length = i * sz := by simp; omega
        rw [e1, e2, List.length_cons, hmul, Nat.add_zero, hul]
        have t1 : (cells.toList.take (i * sz) ++ u.cells.toList ++ cells.toList.drop (i * sz + sz)).take (i * sz + sz) = cells.toList.take (i * sz) ++ u.cells.toList := by
          rw [List.take_append_of_le_length (by simp [hul, hl1]), List.take_of_length_le (by simp [hul]; omega)]
        have t2 : (cells.toList.take (i * sz) ++ u.cells.toList ++ cells.toList.drop (i * sz + sz)).drop (i * sz + sz + vs.length * sz) = cells.toList.drop (i * sz + sz + vs.length * sz) := by
          rw [List.drop_append, List.drop_of_length_le (by simp [hul]; omega), List.nil_append, List.drop_drop]
          congr 1
          simp [hul]; omega
        rw [t1, t2]
        simp [List.append_assoc]

end
end Go.Abs
