/- DERIVED by an AI agent. The operations that make or write memory: what they ask, what they leave; store, append, literals. No program in sight. -/
import Derived.Test.YtfjjopfeipggiaaA13
namespace Go.Abs
set_option linter.unusedSimpArgs false

/-- Cells put over a list's. -/
def spl (c : List PV) (off : Nat) (new : List PV) : List PV :=
  match new with
  | [p] => c.set off p
  | _ => c.take off ++ new ++ c.drop (off + new.length)

theorem spl_eq (c : List PV) (off : Nat) (new : List PV) (h : off + new.length ≤ c.length) : spl c off new = c.take off ++ new ++ c.drop (off + new.length) := by
  unfold spl
  split
  · rename_i p
    have : off < c.length := by simp at h; omega
    rw [List.set_eq_take_append_cons_drop, if_pos this]; simp
  · rfl

/-- A cell that is one. -/
def oneP (rw : Nat → Row) (p : PV) : Prop :=
  match p with
  | .v x => x.oneCell' = true
  | .sl _ _ _ => True
  | .eref _ _ _ => True
  | .clo _ _ => True
  | .own k ver => (rw k).ver = ver ∧ (rw k).kind.slice = true
  | .ref k ver _ => (rw k).ver = ver ∧ (rw k).kind.nd = true
  | _ => False

theorem oneP_sound {G : Ghost} {w : World} {E : Env} {lo : Nat} {p : PV} {x : Value} (h : oneP E.R p) (hw : WOk G E w) (hp : Rep w E lo p x) : x.oneCell' = true := by
  cases hp with
  | v => exact h
  | sl => rfl
  | eref => rfl
  | clo => rfl
  | own hv hx => obtain ⟨_, _, _, he⟩ := slice_row hw h.2; rw [hx h.1 h.2, he]; rfl
  | ref hv hx => obtain ⟨b, _, he⟩ := hx h.1 h.2; rw [he]; rfl
  | ag => exact h.elim
  | tup => exact h.elim
  | junk => exact h.elim

def storeK (T : Tab) (s : St) (t : TypeId) (ad val : PV) (K : St → Prop) : Prop :=
  0 < (T t).size ∧ match ad with
  | .ref k ver off => (s.rw k).ver = ver ∧ match (s.rw k).kind with
    | .box bt c => cellsK s.rw val fun new => new.length = (T t).size ∧ off + new.length ≤ c.length ∧ (∀ p ∈ new, oneP s.rw p) ∧ K (s.row k ⟨ver, .box bt (spl c off new)⟩)
    | .sli e sz false c => pureK s.rw val fun new fz => new.length = (T t).size ∧ off + new.length ≤ c.length ∧ k ∉ fz ∧ K ((s.freeze fz).row k ⟨ver, .sli e sz false (spl c off new)⟩)
    | _ => False
  | _ => False

/-- A cell that is one, read out of memory that is only read. -/
def oneQ : PV → Bool | .v x => x.oneCell' | .sl _ _ _ => true | .eref _ _ _ => true | .clo _ _ => true | _ => false

def appSt (s : St) (d k : Nat) (kd : RK) : St := (s.row k ⟨(s.rw k).ver + 1, kd⟩).put (some d) (.own k ((s.rw k).ver + 1))

def appendK (T : Tab) (s : St) (d : Nat) (t t2 : TypeId) (x y : PV) (K : St → Prop) : Prop :=
  t = t2 ∧ 0 < (T t).size ∧ match (T t).k with
  | .sli e => 0 < (T e).size ∧ 0 < (T e).bytes ∧ slK s.rw y fun fr sz news => sz = (T e).size ∧ ((∀ p ∈ news, isV p = true) ∨ (fr = true ∧ ∀ p ∈ news, oneQ p = true)) ∧
      (match x with
      | .v u => isNil u = true ∧ news.length * (T e).bytes ≤ 140737488355328 ∧ K (newSt s d (.sli e (T e).size false news) (fun v => .own d v))
      | .own k ver => (s.rw k).ver = ver ∧ (match (s.rw k).kind with
          | .nil => news.length * (T e).bytes ≤ 140737488355328 ∧ K (appSt s d k (.sli e (T e).size false news))
          | .sli e' sz' false c => e' = e ∧ sz' = (T e).size ∧ (c.length + news.length) * (T e).bytes ≤ 140737488355328 ∧ K (appSt s d k (.sli e (T e).size false (c ++ news)))
          | _ => False)
      | _ => False)
  | _ => False

section
variable {P : Program} {T : Tab} {G : Ghost} {s : St} {E : Env} {a : Act} {w w' : World} {o : Oper}

theorem wp_of_skip {K : Act → World → Prop} {Q : Exit → Act → World → Prop} (h : (execOp a.eval o).run P w = .ok .skip w') (hk : K (a.put o.dst undef) w') : o.wp P a w K Q := by
  unfold Oper.wp; rw [h]; exact hk

/-- A row turned, its value handed on. -/
theorem eff_turn {fz : List Nat} {k : Nat} {r : Row} {m : Option Nat} {v x : Value} {p : PV} (hs : SimE G E s a w) (hrun : (execOp a.eval o).run P w = .ok (.value x) w') (ht : OneTurn E w w' k r m v)
    (hf : ∀ j ∈ fz, j ≠ k) (hrow : Lasts w w' E (E.turn fz k r m v) → RowOk w' (E.turn fz k r m v) G.C k) (hp : Rep w' (E.turn fz k r m v) 0 p x) (hd : ∀ x, o.dst = some x → x < G.n)
    {K : Act → World → Prop} {Q : Exit → Act → World → Prop} (hK : ∀ a' w', Sim G (((s.freeze fz).row k r).put o.dst p) a' w' → K a' w') : o.wp P a w K Q := by
  refine eff_value hs hrun (ht.turn hs.wok) (ht.rows hs.wok hf hrow) hp hd (fun a' w' h => hK a' w' ?_)
  have e : (E.turn fz k r m v).R = ((s.freeze fz).row k r).rw := by
    simp only [Env.turn, hs.rw]; rfl
  rw [e] at h
  exact h

theorem eff_turn_skip {fz : List Nat} {k : Nat} {r : Row} {m : Option Nat} {v : Value} (hs : SimE G E s a w) (hrun : (execOp a.eval o).run P w = .ok .skip w') (ht : OneTurn E w w' k r m v)
    (hf : ∀ j ∈ fz, j ≠ k) (hrow : Lasts w w' E (E.turn fz k r m v) → RowOk w' (E.turn fz k r m v) G.C k) (hd : o.dst = none)
    {K : Act → World → Prop} {Q : Exit → Act → World → Prop} (hK : ∀ a' w', Sim G ((s.freeze fz).row k r) a' w' → K a' w') : o.wp P a w K Q := by
  refine wp_of_skip hrun (hK _ _ ?_)
  have e : (E.turn fz k r m v).R = ((s.freeze fz).row k r).rw := by
    simp only [Env.turn, hs.rw]; rfl
  have := (ht.turn (fz := fz) hs.wok).sim hs (ht.rows hs.wok hf hrow)
  rw [e] at this
  rw [hd]
  exact ⟨_, this⟩

theorem run_store_at (hT : T.Ok P) {t bt : TypeId} (ht : 0 < (T t).size) {b off : Nat} {cur : Array Value} {x : Value} (hh : w.heap[b]? = some (.cells cur bt (0, 0))) (hsz : x.cells.size = (T t).size)
    (hfit : off + x.cells.size ≤ cur.size) (h1 : ∀ y ∈ x.cells.toList, y.oneCell' = true) :
    (Instr.storeAt t (.pointer (some ⟨b, off, none⟩)) x).run P w = .ok () (w.setRow b (cur.toList.take off ++ x.cells.toList ++ cur.toList.drop (off + x.cells.size)).toArray) := by
  have hs := run_sizeOf_of (hT t ht) w
  have hst := run_storeCells_at P b off bt x.cells.toList 0 cur w hh (by simpa using hfit) h1
  simp [Instr.storeAt, Instr.sureAddr, storeVar, hs, hsz]
  simpa [hsz] using hst

theorem spl_rep {E' : Env} {lo : Nat} {c new : List PV} {vs xs : List Value} {off : Nat} (h1 : RepL w E' lo c vs) (h2 : RepL w E' lo new xs) (hfit : off + new.length ≤ c.length) :
    RepL w E' lo (spl c off new) (vs.take off ++ xs ++ vs.drop (off + xs.length)) := by
  rw [spl_eq _ _ _ hfit]
  refine RepL.append (RepL.append ⟨by simp [h1.1], fun i p q => ?_⟩ h2) ⟨by simp [h1.1, h2.1], fun i p q => ?_⟩
  · simp only [List.getElem_take]; exact h1.2 i _ _
  · simp only [List.getElem_drop]
    have := h1.2 (off + new.length + i) (by simp at p; omega) (by simp at q; have := h2.1; omega)
    simpa [h2.1] using this

theorem store_sound (hT : T.Ok P) {t : TypeId} {ad val : Operand} {K : St → Prop} (ho : o.op = .store t ad val) (hdst : o.dst = none) (hk : storeK T s t (s.ev ad) (s.ev val) K) :
    ∃ s', K s' ∧ Effects P G s o s' := by
  obtain ⟨ht, hk⟩ := hk
  split at hk
  · rename_i k ver off hev
    obtain ⟨hver, hk⟩ := hk
    split at hk
    · rename_i bt c hkind
      -- a variable
      have hdet : ∃ new, cellsK s.rw (s.ev val) (· = new) ∧ (new.length = (T t).size ∧ off + new.length ≤ c.length ∧ (∀ p ∈ new, oneP s.rw p) ∧ K (s.row k ⟨ver, .box bt (spl c off new)⟩)) := by
        unfold cellsK at hk ⊢
        split at hk <;> first
          | exact ⟨_, rfl, hk⟩
          | exact ⟨_, ⟨hk.1, rfl⟩, hk.2⟩
          | exact ⟨_, ⟨hk.1, hk.2.1, rfl⟩, hk.2.2⟩
          | exact hk.elim
      obtain ⟨new, hc, hn, hfit, hone, hk⟩ := hdet
      refine ⟨_, hk, fun a w hs K' Q hK => ?_⟩
      obtain ⟨E, hs⟩ := hs
      have hR := hs.rw
      have hrw := hs.wok
      have hpa := eval_rep hs.slots ad
      have hpv := eval_rep hs.slots val
      rw [hev] at hpa
      have hkind' : (E.R k).kind = .box bt c := by rw [hR]; exact hkind
      have hver' : (E.R k).ver = ver := by rw [hR]; exact hver
      obtain ⟨c', rfl, hrep, _⟩ := cellsK_sound hc hR hrw hpv
      generalize hva : a.eval ad = va at hpa
      cases hpa with
      | ref hv hx =>
        obtain ⟨b, hb, rfl⟩ := hx hver' (by rw [hkind']; rfl)
        have hrow := hrw.rows k
        unfold RowOk at hrow
        simp only [hkind'] at hrow
        obtain ⟨b', vs, g1, g2, g3, g4⟩ := hrow
        rw [hb] at g1; cases g1
        have hxs : (a.eval val).cells.size = (T t).size := by rw [← hn, hrep.1]; simp
        have h1 : ∀ y ∈ (a.eval val).cells.toList, y.oneCell' = true := fun y hy => by
          obtain ⟨i, hi, rfl⟩ := List.getElem_of_mem hy
          have hi' : i < c'.length := by rw [hrep.1]; exact hi
          exact oneP_sound (by rw [hR]; exact hone _ (List.getElem_mem hi')) hrw (hrep.2 i hi' hi)
        have hrun := run_store_at (P := P) hT ht g3 hxs (by rw [hxs, ← hn]; simp; rw [← g4.1]; exact hfit) h1
        have hturn : OneTurn E w (w.setRow b (vs.toArray.toList.take off ++ (a.eval val).cells.toList ++ vs.toArray.toList.drop (off + (a.eval val).cells.size)).toArray) k ⟨ver, .box bt (spl c off c')⟩ (E.rm k) (E.rv k) :=
          ⟨fun b' hb' hne => setRow_other w b b' _ (fun e => by
              subst e
              have := hne hb
              rw [hkind'] at this; cases this),
            fun b' hb' _ => .inr ⟨hb', by rw [hkind']; rfl, fun _ => by rw [hkind']; rfl⟩, by rw [hver']; exact Nat.le_refl _,
            fun _ h => (by cases h), fun _ _ => ⟨by rw [hkind']; rfl, rfl⟩, fun _ => by show 0 < ver; rw [← hver']; exact hrw.pos k (by rw [hkind']; rfl), by simp, rfl, rfl, rfl⟩
        refine eff_turn_skip (fz := []) hs ?_ hturn (by simp) (fun hl => ?_) hdst (fun a' w' h => hK a' w' ?_)
        · simp [execOp, ho, hva, hrun]
        · unfold RowOk
          simp only [Env.turn, updF_same]
          refine ⟨b, _, hb, g2, setRow_heap w b _ _ bt _ g3, ?_⟩
          have hsp := spl_rep (g4.mono hl (Nat.le_refl _)) (hrep.mono hl (Nat.le_refl _)) hfit
          simpa [Env.turn] using hsp
        · rw [St.freeze_nil] at h; exact h
    · rename_i e sz c hkind
      -- a slice's cell
      have hdet : ∃ new fz, pureK s.rw (s.ev val) (fun a b => a = new ∧ b = fz) ∧ (new.length = (T t).size ∧ off + new.length ≤ c.length ∧ k ∉ fz ∧ K ((s.freeze fz).row k ⟨ver, .sli e sz false (spl c off new)⟩)) := by
        unfold pureK at hk ⊢
        split at hk
        · exact ⟨_, _, ⟨hk.1, rfl, rfl⟩, hk.2⟩
        · exact ⟨_, _, ⟨hk.1, rfl, rfl⟩, hk.2⟩
        · obtain ⟨q1, q2, hk⟩ := hk
          split at hk
          · exact ⟨_, _, ⟨q1, q2, rfl, rfl⟩, hk⟩
          · exact ⟨_, _, ⟨q1, q2, rfl, rfl⟩, hk⟩
          · exact hk.elim
        · exact ⟨_, _, ⟨hk.1, rfl, rfl⟩, hk.2⟩
        · exact hk.elim
      obtain ⟨new, fz, hc, hn, hfit, hkf, hk⟩ := hdet
      refine ⟨_, hk, fun a w hs K' Q hK => ?_⟩
      obtain ⟨E, hs⟩ := hs
      have hR := hs.rw
      have hrw := hs.wok
      have hpa := eval_rep hs.slots ad
      have hpv := eval_rep hs.slots val
      rw [hev] at hpa
      have hkind' : (E.R k).kind = .sli e sz false c := by rw [hR]; exact hkind
      have hver' : (E.R k).ver = ver := by rw [hR]; exact hver
      obtain ⟨c', f', ⟨rfl, rfl⟩, hlen, h1, hfz, hrep⟩ := pureK_sound hc hR hrw hpv
      generalize hva : a.eval ad = va at hpa
      cases hpa with
      | ref hv hx =>
        obtain ⟨b, hb, rfl⟩ := hx hver' (by rw [hkind']; rfl)
        have hrow := hrw.rows k
        unfold RowOk at hrow
        simp only [hkind'] at hrow
        rcases hrow with ⟨g1, _, _⟩ | ⟨b', n, cap, vs, rest, g1, g2, g3, g4, g5, g6, g7, g8, g9⟩
        · rw [hb] at g1; cases g1
        · rw [hb] at g1; cases g1
          have hxs : (a.eval val).cells.size = (T t).size := by rw [← hn, hlen]
          have hfit' : off + (a.eval val).cells.size ≤ vs.length := by rw [← hlen, ← g9.1]; exact hfit
          have hrun := run_store_at (P := P) (off := off) hT ht g4 hxs (by simp; omega) h1
          have hturn : OneTurn E w (w.setRow b ((vs ++ rest).toArray.toList.take off ++ (a.eval val).cells.toList ++ (vs ++ rest).toArray.toList.drop (off + (a.eval val).cells.size)).toArray) k ⟨ver, .sli e sz false (spl c off c')⟩ (E.rm k) (E.rv k) :=
            ⟨fun b' hb' hne => setRow_other w b b' _ (fun e => by
                subst e
                have := hne hb
                rw [hkind'] at this; cases this),
              fun b' hb' _ => .inr ⟨hb', by rw [hkind']; rfl, fun _ => by rw [hkind']; rfl⟩, by rw [hver']; exact Nat.le_refl _,
              fun _ _ => ⟨by rw [hkind']; rfl, rfl⟩, fun _ _ => ⟨by rw [hkind']; rfl, rfl⟩, fun _ => by show 0 < ver; rw [← hver']; exact hrw.pos k (by rw [hkind']; rfl), by simp, rfl, rfl, rfl⟩
          have hne : ∀ j ∈ f', j ≠ k := fun j hj e => hkf (e ▸ hj)
          refine eff_turn_skip (fz := f') hs ?_ hturn hne (fun hl => ?_) hdst (fun a' w' h => hK a' w' h)
          · simp [execOp, ho, hva, hrun]
          · unfold RowOk
            simp only [Env.turn, updF_same]
            have hnew := hrep _ _ hl rfl (fun j hj b' hb' => by
              obtain ⟨q1, e', sz', fz', cc, q2⟩ := hfz j hj
              have hbb : b' ≠ b := fun e => hne j hj (hrw.inj j k b (by rw [q2]; rfl) (by rw [hkind']; rfl) (by rw [← e]; exact hb') hb)
              refine ⟨setRow_other w b b' _ hbb, fun hL => ?_⟩
              obtain ⟨j', r1, r2⟩ := hL
              by_cases hj' : j' = k
              · subst hj'
                simp only [updF_same] at r1
                rw [hb] at r1; cases r1; exact hbb rfl
              · simp only [updF_other _ _ hj'] at r1 r2
                have r3 : (E.R j').kind.live = true := by
                  unfold frzF at r2; split at r2
                  · exact frz_live _ r2
                  · exact r2
                have := hrw.inj j j' b' (by rw [q2]; rfl) (RK.nd_of_live r3) hb' r1
                subst this
                unfold frzF at r2
                rw [if_pos hj] at r2
                simp [frz, q2, RK.live] at r2)
            refine .inr ⟨b, n, cap, vs.take off ++ (a.eval val).cells.toList ++ vs.drop (off + (a.eval val).cells.toList.length), rest, hb, g2, g3, ?_, ?_, g6, g7, ?_, ?_⟩
            · rw [setRow_heap w b _ _ e _ g4]
              congr 3
              simp [List.take_append_of_le_length (by omega : off ≤ vs.length), List.drop_append_of_le_length hfit']
            · simp at hfit' ⊢; omega
            · simp at g8 hfit' ⊢; omega
            · exact spl_rep (g9.mono hl.bare (Nat.le_refl _)) hnew hfit
    · exact hk.elim
  · exact hk.elim

end
end Go.Abs
