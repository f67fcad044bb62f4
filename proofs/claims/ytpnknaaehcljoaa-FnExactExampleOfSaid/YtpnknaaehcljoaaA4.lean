/- DERIVED by an AI agent. -/
import Derived.Test.YtpnknaaehcljoaaA3
import Derived.Lib.AppendStr
/- DERIVED by an AI agent. The operations that make or write memory: what they ask, what they leave; store, append, literals. No program in sight. -/
namespace Go.Abs
set_option linter.unusedSimpArgs false

/-- Cells put over a list's. -/
def spl (c : List PV) (off : Nat) (new : List PV) : List PV :=
  match new with
  | [p] => c.set off p
  | _ => c.take off ++ new ++ c.drop (off + new.length)

theorem spl_eq (c : List PV) (off : Nat) (new : List PV) (h : off + new.length ≤ c.length) : spl c off new = c.take off ++ new ++ c.drop (off + new.length) := by
  unfold spl
  split
  · rename_i p
    have : off < c.length := by simp at h; omega
    rw [List.set_eq_take_append_cons_drop, if_pos this]; simp
  · rfl

/-- A cell that is one. -/
def oneP (rw : Nat → Row) (p : PV) : Prop :=
  match p with
  | .v x => x.oneCell' = true
  | .sl _ _ _ => True
  | .eref _ _ _ => True
  | .clo _ _ => True
  | .own k ver => (rw k).ver = ver ∧ (rw k).kind.slice = true
  | .ref k ver _ => (rw k).ver = ver ∧ (rw k).kind.nd = true
  | _ => False

theorem oneP_sound [Held] {G : Ghost} {w : World} {E : Env} {lo : Nat} {p : PV} {x : Value} (h : oneP E.R p) (hw : WOk G E w) (hp : Rep w E lo p x) : x.oneCell' = true := by
  cases hp with
  | v => exact h
  | sl => rfl
  | eref => rfl
  | clo => rfl
  | own hv hx => obtain ⟨_, _, _, he⟩ := slice_row hw h.2; rw [hx h.1 h.2, he]; rfl
  | ref hv hx => obtain ⟨b, _, he⟩ := hx h.1 h.2; rw [he]; rfl
  | ag => exact h.elim
  | tup => exact h.elim
  | junk => exact h.elim

def storeK (T : Tab) (s : St) (t : TypeId) (ad val : PV) (K : St → Prop) : Prop :=
  0 < (T t).size ∧ match ad with
  | .ref k ver off => (s.rw k).ver = ver ∧ match (s.rw k).kind with
    | .box bt c => cellsK s.rw val fun new => new.length = (T t).size ∧ off + new.length ≤ c.length ∧ (∀ p ∈ new, oneP s.rw p) ∧ K (s.row k ⟨ver, .box bt (spl c off new)⟩)
    | .sli e sz false c => pureK s.rw val fun new fz => new.length = (T t).size ∧ off + new.length ≤ c.length ∧ k ∉ fz ∧ K ((s.freeze fz).row k ⟨ver, .sli e sz false (spl c off new)⟩)
    | .tab e c => cellsK s.rw val fun new => new.length = (T t).size ∧ off + new.length ≤ c.length ∧ (∀ p ∈ new, oneP s.rw p) ∧ K (s.row k ⟨ver, .tab e (spl c off new)⟩)
    | _ => False
  | _ => False

/-- A cell that is one, read out of memory that is only read. -/
def oneQ : PV → Bool | .v x => x.oneCell' | .sl _ _ _ => true | .eref _ _ _ => true | .clo _ _ => true | _ => false

def appSt (s : St) (d k : Nat) (kd : RK) : St := (s.row k ⟨(s.rw k).ver + 1, kd⟩).put (some d) (.own k ((s.rw k).ver + 1))

def appendK (T : Tab) (s : St) (d : Nat) (t t2 : TypeId) (x y : PV) (K : St → Prop) : Prop :=
  t = t2 ∧ 0 < (T t).size ∧ match (T t).k with
  | .sli e => 0 < (T e).size ∧ 0 < (T e).bytes ∧ slK s.rw y fun fr sz news => sz = (T e).size ∧ ((∀ p ∈ news, isV p = true) ∨ (fr = true ∧ ∀ p ∈ news, oneQ p = true)) ∧
      (match x with
      | .v u => isNil u = true ∧ news.length * (T e).bytes ≤ 140737488355328 ∧ K (newSt s d (.sli e (T e).size false news) (fun v => .own d v))
      | .own k ver => (s.rw k).ver = ver ∧ (match (s.rw k).kind with
          | .nil => news.length * (T e).bytes ≤ 140737488355328 ∧ K (appSt s d k (.sli e (T e).size false news))
          | .sli e' sz' false c => e' = e ∧ sz' = (T e).size ∧ (c.length + news.length) * (T e).bytes ≤ 140737488355328 ∧ K (appSt s d k (.sli e (T e).size false (c ++ news)))
          | _ => False)
      | _ => False)
  | _ => False

section
variable {P : Program} {T : Tab} {G : Ghost} {s : St} {E : Env} {a : Act} {w w' : World} {o : Oper}

theorem wp_of_skip {K : Act → World → Prop} {Q : Exit → Act → World → Prop} (h : (execOp a.eval o).run P w = .ok .skip w') (hk : K (a.put o.dst undef) w') : o.wp P a w K Q := by
  unfold Oper.wp; rw [h]; exact hk

/-- A row turned, its value handed on. -/
theorem eff_turn [Held] {fz : List Nat} {k : Nat} {r : Row} {m : Option Nat} {v x : Value} {p : PV} (hs : SimE G E s a w) (hrun : (execOp a.eval o).run P w = .ok (.value x) w') (ht : OneTurn E w w' k r m v)
    (hf : ∀ j ∈ fz, j ≠ k) (hrow : Lasts w w' E (E.turn fz k r m v) → RowOk w' (E.turn fz k r m v) G.C k) (hp : Rep w' (E.turn fz k r m v) 0 p x) (hd : ∀ x, o.dst = some x → x < G.n)
    {K : Act → World → Prop} {Q : Exit → Act → World → Prop} (hK : ∀ a' w', Sim G (((s.freeze fz).row k r).put o.dst p) a' w' → K a' w') : o.wp P a w K Q := by
  refine eff_value hs hrun (ht.turn hs.wok) (ht.rows hs.wok hf hrow) hp hd (fun a' w' h => hK a' w' ?_)
  have e : (E.turn fz k r m v).R = ((s.freeze fz).row k r).rw := by
    simp only [Env.turn, hs.rw]; rfl
  rw [e] at h
  exact h

theorem eff_turn_skip [Held] {fz : List Nat} {k : Nat} {r : Row} {m : Option Nat} {v : Value} (hs : SimE G E s a w) (hrun : (execOp a.eval o).run P w = .ok .skip w') (ht : OneTurn E w w' k r m v)
    (hf : ∀ j ∈ fz, j ≠ k) (hrow : Lasts w w' E (E.turn fz k r m v) → RowOk w' (E.turn fz k r m v) G.C k) (hd : o.dst = none)
    {K : Act → World → Prop} {Q : Exit → Act → World → Prop} (hK : ∀ a' w', Sim G ((s.freeze fz).row k r) a' w' → K a' w') : o.wp P a w K Q := by
  refine wp_of_skip hrun (hK _ _ ?_)
  have e : (E.turn fz k r m v).R = ((s.freeze fz).row k r).rw := by
    simp only [Env.turn, hs.rw]; rfl
  have := (ht.turn (fz := fz) hs.wok).sim hs (ht.rows hs.wok hf hrow)
  rw [e] at this
  rw [hd]
  exact ⟨_, this⟩

theorem run_store_at [Held] (hT : T.Ok P) {t bt : TypeId} (ht : 0 < (T t).size) {b off : Nat} {cur : Array Value} {x : Value} (hh : w.heap[b]? = some (.cells cur bt (0, 0))) (hsz : x.cells.size = (T t).size)
    (hfit : off + x.cells.size ≤ cur.size) (h1 : ∀ y ∈ x.cells.toList, y.oneCell' = true) :
    (Instr.storeAt t (.pointer (some ⟨b, off, none⟩)) x).run P w = .ok () (w.setRow b (cur.toList.take off ++ x.cells.toList ++ cur.toList.drop (off + x.cells.size)).toArray) := by
  have hs := run_sizeOf_of (hT t ht) w
  have hst := run_storeCells_at P b off bt x.cells.toList 0 cur w hh (by simpa using hfit) h1
  simp [Instr.storeAt, Instr.sureAddr, storeVar, hs, hsz]
  simpa [hsz] using hst

theorem spl_rep [Held] {E' : Env} {lo : Nat} {c new : List PV} {vs xs : List Value} {off : Nat} (h1 : RepL w E' lo c vs) (h2 : RepL w E' lo new xs) (hfit : off + new.length ≤ c.length) :
    RepL w E' lo (spl c off new) (vs.take off ++ xs ++ vs.drop (off + xs.length)) := by
  rw [spl_eq _ _ _ hfit]
  refine RepL.append (RepL.append ⟨by simp [h1.1], fun i p q => ?_⟩ h2) ⟨by simp [h1.1, h2.1], fun i p q => ?_⟩
  · simp only [List.getElem_take]; exact h1.2 i _ _
  · simp only [List.getElem_drop]
    have := h1.2 (off + new.length + i) (by simp at p; omega) (by simp at q; have := h2.1; omega)
    simpa [h2.1] using this

theorem store_sound [Held] (hT : T.Ok P) {t : TypeId} {ad val : Operand} {K : St → Prop} (ho : o.op = .store t ad val) (hdst : o.dst = none) (hk : storeK T s t (s.ev ad) (s.ev val) K) :
    ∃ s', K s' ∧ Effects P G s o s' := by
  obtain ⟨ht, hk⟩ := hk
  split at hk
  · rename_i k ver off hev
    obtain ⟨hver, hk⟩ := hk
    split at hk
    · rename_i bt c hkind
      -- a variable
      have hdet : ∃ new, cellsK s.rw (s.ev val) (· = new) ∧ (new.length = (T t).size ∧ off + new.length ≤ c.length ∧ (∀ p ∈ new, oneP s.rw p) ∧ K (s.row k ⟨ver, .box bt (spl c off new)⟩)) := by
        unfold cellsK at hk ⊢
        split at hk <;> first
          | exact ⟨_, rfl, hk⟩
          | exact ⟨_, ⟨hk.1, rfl⟩, hk.2⟩
          | exact ⟨_, ⟨hk.1, hk.2.1, rfl⟩, hk.2.2⟩
          | exact hk.elim
      obtain ⟨new, hc, hn, hfit, hone, hk⟩ := hdet
      refine ⟨_, hk, fun a w hs K' Q hK => ?_⟩
      obtain ⟨E, hs⟩ := hs
      have hR := hs.rw
      have hrw := hs.wok
      have hpa := eval_rep hs.slots ad
      have hpv := eval_rep hs.slots val
      rw [hev] at hpa
      have hkind' : (E.R k).kind = .box bt c := by rw [hR]; exact hkind
      have hver' : (E.R k).ver = ver := by rw [hR]; exact hver
      obtain ⟨c', rfl, hrep, _⟩ := cellsK_sound hc hR hrw hpv
      generalize hva : a.eval ad = va at hpa
      cases hpa with
      | ref hv hx =>
        obtain ⟨b, hb, rfl⟩ := hx hver' (by rw [hkind']; rfl)
        have hrow := hrw.rows k
        unfold RowOk at hrow
        simp only [hkind'] at hrow
        obtain ⟨b', vs, g1, g2, g3, g4⟩ := hrow
        rw [hb] at g1; cases g1
        have hxs : (a.eval val).cells.size = (T t).size := by rw [← hn, hrep.1]; simp
        have h1 : ∀ y ∈ (a.eval val).cells.toList, y.oneCell' = true := fun y hy => by
          obtain ⟨i, hi, rfl⟩ := List.getElem_of_mem hy
          have hi' : i < c'.length := by rw [hrep.1]; exact hi
          exact oneP_sound (by rw [hR]; exact hone _ (List.getElem_mem hi')) hrw (hrep.2 i hi' hi)
        have hrun := run_store_at (P := P) hT ht g3 hxs (by rw [hxs, ← hn]; simp; rw [← g4.1]; exact hfit) h1
        have hturn : OneTurn E w (w.setRow b (vs.toArray.toList.take off ++ (a.eval val).cells.toList ++ vs.toArray.toList.drop (off + (a.eval val).cells.size)).toArray) k ⟨ver, .box bt (spl c off c')⟩ (E.rm k) (E.rv k) :=
          ⟨fun b' hb' hne => setRow_other w b b' _ (fun e => by
              subst e
              have := hne hb
              rw [hkind'] at this; cases this),
            fun b' hb' _ => .inr ⟨hb', by rw [hkind']; rfl, fun _ => by rw [hkind']; rfl⟩, by rw [hver']; exact Nat.le_refl _,
            fun _ h => (by cases h), fun _ _ => ⟨by rw [hkind']; rfl, rfl⟩, fun _ => by show 0 < ver; rw [← hver']; exact hrw.pos k (by rw [hkind']; rfl), by simp, rfl, rfl, ⟨rfl, fun _ => by first | exact Nat.le_refl _ | exact Nat.le_succ _⟩⟩
        refine eff_turn_skip (fz := []) hs ?_ hturn (by simp) (fun hl => ?_) hdst (fun a' w' h => hK a' w' ?_)
        · simp [execOp, ho, hva, hrun]
        · unfold RowOk
          simp only [Env.turn, updF_same]
          refine ⟨b, _, hb, g2, setRow_heap w b _ _ bt _ g3, ?_⟩
          have hsp := spl_rep (g4.mono hl (Nat.le_refl _)) (hrep.mono hl (Nat.le_refl _)) hfit
          simpa [Env.turn] using hsp
        · rw [St.freeze_nil] at h; exact h
    · rename_i e sz c hkind
      -- a slice's cell
      have hdet : ∃ new fz, pureK s.rw (s.ev val) (fun a b => a = new ∧ b = fz) ∧ (new.length = (T t).size ∧ off + new.length ≤ c.length ∧ k ∉ fz ∧ K ((s.freeze fz).row k ⟨ver, .sli e sz false (spl c off new)⟩)) := by
        unfold pureK at hk ⊢
        split at hk
        · exact ⟨_, _, ⟨hk.1, rfl, rfl⟩, hk.2⟩
        · exact ⟨_, _, ⟨hk.1, rfl, rfl⟩, hk.2⟩
        · obtain ⟨q1, q2, hk⟩ := hk
          split at hk
          · exact ⟨_, _, ⟨q1, q2, rfl, rfl⟩, hk⟩
          · exact ⟨_, _, ⟨q1, q2, rfl, rfl⟩, hk⟩
          · exact hk.elim
        · exact ⟨_, _, ⟨hk.1, rfl, rfl⟩, hk.2⟩
        · exact hk.elim
      obtain ⟨new, fz, hc, hn, hfit, hkf, hk⟩ := hdet
      refine ⟨_, hk, fun a w hs K' Q hK => ?_⟩
      obtain ⟨E, hs⟩ := hs
      have hR := hs.rw
      have hrw := hs.wok
      have hpa := eval_rep hs.slots ad
      have hpv := eval_rep hs.slots val
      rw [hev] at hpa
      have hkind' : (E.R k).kind = .sli e sz false c := by rw [hR]; exact hkind
      have hver' : (E.R k).ver = ver := by rw [hR]; exact hver
      obtain ⟨c', f', ⟨rfl, rfl⟩, hlen, h1, hfz, hrep⟩ := pureK_sound hc hR hrw hpv
      generalize hva : a.eval ad = va at hpa
      cases hpa with
      | ref hv hx =>
        obtain ⟨b, hb, rfl⟩ := hx hver' (by rw [hkind']; rfl)
        have hrow := hrw.rows k
        unfold RowOk at hrow
        simp only [hkind'] at hrow
        rcases hrow with ⟨g1, _, _⟩ | ⟨b', n, cap, vs, rest, g1, g2, g3, g4, g5, g6, g7, g8, g9⟩
        · rw [hb] at g1; cases g1
        · rw [hb] at g1; cases g1
          have hxs : (a.eval val).cells.size = (T t).size := by rw [← hn, hlen]
          have hfit' : off + (a.eval val).cells.size ≤ vs.length := by rw [← hlen, ← g9.1]; exact hfit
          have hrun := run_store_at (P := P) (off := off) hT ht g4 hxs (by simp; omega) h1
          have hturn : OneTurn E w (w.setRow b ((vs ++ rest).toArray.toList.take off ++ (a.eval val).cells.toList ++ (vs ++ rest).toArray.toList.drop (off + (a.eval val).cells.size)).toArray) k ⟨ver, .sli e sz false (spl c off c')⟩ (E.rm k) (E.rv k) :=
            ⟨fun b' hb' hne => setRow_other w b b' _ (fun e => by
                subst e
                have := hne hb
                rw [hkind'] at this; cases this),
              fun b' hb' _ => .inr ⟨hb', by rw [hkind']; rfl, fun _ => by rw [hkind']; rfl⟩, by rw [hver']; exact Nat.le_refl _,
              fun _ _ => ⟨by rw [hkind']; rfl, rfl⟩, fun _ _ => ⟨by rw [hkind']; rfl, rfl⟩, fun _ => by show 0 < ver; rw [← hver']; exact hrw.pos k (by rw [hkind']; rfl), by simp, rfl, rfl, ⟨rfl, fun _ => by first | exact Nat.le_refl _ | exact Nat.le_succ _⟩⟩
          have hne : ∀ j ∈ f', j ≠ k := fun j hj e => hkf (e ▸ hj)
          refine eff_turn_skip (fz := f') hs ?_ hturn hne (fun hl => ?_) hdst (fun a' w' h => hK a' w' h)
          · simp [execOp, ho, hva, hrun]
          · unfold RowOk
            simp only [Env.turn, updF_same]
            have hnew := hrep _ _ hl rfl (fun j hj b' hb' => by
              obtain ⟨q1, e', sz', fz', cc, q2⟩ := hfz j hj
              have hbb : b' ≠ b := fun e => hne j hj (hrw.inj j k b (by rw [q2]; rfl) (by rw [hkind']; rfl) (by rw [← e]; exact hb') hb)
              refine ⟨setRow_other w b b' _ hbb, fun hL => ?_⟩
              rcases hL with ⟨j', r1, r2⟩ | hX
              rotate_left
              · exact hs.wok.apart j b' (by rw [q2]; rfl) hb' (hs.wok.xs ▸ hX)
              by_cases hj' : j' = k
              · subst hj'
                simp only [updF_same] at r1
                rw [hb] at r1; cases r1; exact hbb rfl
              · simp only [updF_other _ _ hj'] at r1 r2
                have r3 : (E.R j').kind.live = true := by
                  unfold frzF at r2; split at r2
                  · exact frz_live _ r2
                  · exact r2
                have := hrw.inj j j' b' (by rw [q2]; rfl) (RK.nd_of_live r3) hb' r1
                subst this
                unfold frzF at r2
                rw [if_pos hj] at r2
                simp [frz, q2, RK.live] at r2)
            refine .inr ⟨b, n, cap, vs.take off ++ (a.eval val).cells.toList ++ vs.drop (off + (a.eval val).cells.toList.length), rest, hb, g2, g3, ?_, ?_, g6, g7, ?_, ?_⟩
            · rw [setRow_heap w b _ _ e _ g4]
              congr 3
              simp [List.take_append_of_le_length (by omega : off ≤ vs.length), List.drop_append_of_le_length hfit']
            · simp at hfit' ⊢; omega
            · simp at g8 hfit' ⊢; omega
            · exact spl_rep (g9.mono hl.bare (Nat.le_refl _)) hnew hfit
    · rename_i e c hkind
      -- a table's cell
      have hdet : ∃ new, cellsK s.rw (s.ev val) (· = new) ∧ (new.length = (T t).size ∧ off + new.length ≤ c.length ∧ (∀ p ∈ new, oneP s.rw p) ∧ K (s.row k ⟨ver, .tab e (spl c off new)⟩)) := by
        unfold cellsK at hk ⊢
        split at hk <;> first
          | exact ⟨_, rfl, hk⟩
          | exact ⟨_, ⟨hk.1, rfl⟩, hk.2⟩
          | exact ⟨_, ⟨hk.1, hk.2.1, rfl⟩, hk.2.2⟩
          | exact hk.elim
      obtain ⟨new, hc, hn, hfit, hone, hk⟩ := hdet
      refine ⟨_, hk, fun a w hs K' Q hK => ?_⟩
      obtain ⟨E, hs⟩ := hs
      have hR := hs.rw
      have hrw := hs.wok
      have hpa := eval_rep hs.slots ad
      have hpv := eval_rep hs.slots val
      rw [hev] at hpa
      have hkind' : (E.R k).kind = .tab e c := by rw [hR]; exact hkind
      have hver' : (E.R k).ver = ver := by rw [hR]; exact hver
      obtain ⟨c', rfl, hrep, _⟩ := cellsK_sound hc hR hrw hpv
      generalize hva : a.eval ad = va at hpa
      cases hpa with
      | ref hv hx =>
        obtain ⟨b, hb, rfl⟩ := hx hver' (by rw [hkind']; rfl)
        have hrow := hrw.rows k
        unfold RowOk at hrow
        simp only [hkind'] at hrow
        rcases hrow with ⟨g1, _, _⟩ | ⟨b', n', cap, vs, rest, g1, g2, g3, g4, g5, g6, g7, g8, g9⟩
        · rw [hb] at g1; cases g1
        rw [hb] at g1; cases g1
        have hxs : (a.eval val).cells.size = (T t).size := by rw [← hn, hrep.1]; simp
        have h1 : ∀ y ∈ (a.eval val).cells.toList, y.oneCell' = true := fun y hy => by
          obtain ⟨i, hi, rfl⟩ := List.getElem_of_mem hy
          have hi' : i < c'.length := by rw [hrep.1]; exact hi
          exact oneP_sound (by rw [hR]; exact hone _ (List.getElem_mem hi')) hrw (hrep.2 i hi' hi)
        have hfit' : off + (a.eval val).cells.size ≤ vs.length := by rw [hxs, ← hn, ← g9.1]; exact hfit
        have hrun := run_store_at (P := P) (off := off) hT ht g4 hxs (by simp; omega) h1
        have hturn : OneTurn E w (w.setRow b ((vs ++ rest).toArray.toList.take off ++ (a.eval val).cells.toList ++ (vs ++ rest).toArray.toList.drop (off + (a.eval val).cells.size)).toArray) k ⟨ver, .tab e (spl c off c')⟩ (E.rm k) (E.rv k) :=
          ⟨fun b' hb' hne => setRow_other w b b' _ (fun e => by
              subst e
              have := hne hb
              rw [hkind'] at this; cases this),
            fun b' hb' _ => .inr ⟨hb', by rw [hkind']; rfl, fun _ => by rw [hkind']; rfl⟩, by rw [hver']; exact Nat.le_refl _,
            fun _ _ => ⟨by rw [hkind']; rfl, rfl⟩, fun _ _ => ⟨by rw [hkind']; rfl, rfl⟩, fun _ => by show 0 < ver; rw [← hver']; exact hrw.pos k (by rw [hkind']; rfl), by simp, rfl, rfl, ⟨rfl, fun _ => by first | exact Nat.le_refl _ | exact Nat.le_succ _⟩⟩
        refine eff_turn_skip (fz := []) hs ?_ hturn (by simp) (fun hl => ?_) hdst (fun a' w' h => hK a' w' ?_)
        · simp [execOp, ho, hva, hrun]
        · unfold RowOk
          simp only [Env.turn, updF_same]
          refine .inr ⟨b, n', cap, vs.take off ++ (a.eval val).cells.toList ++ vs.drop (off + (a.eval val).cells.toList.length), rest, hb, g2, g3, ?_, ?_, g6, g7, ?_, ?_⟩
          · rw [setRow_heap w b _ _ e _ g4]
            congr 3
            simp [List.take_append_of_le_length (by omega : off ≤ vs.length), List.drop_append_of_le_length hfit']
          · simp at hfit' ⊢; omega
          · simp at g8 hfit' ⊢; omega
          · have hsp := spl_rep (g9.mono hl (Nat.le_refl _)) (hrep.mono hl (Nat.le_refl _)) hfit
            simpa [Env.turn] using hsp
        · rw [St.freeze_nil] at h; exact h
    · exact hk.elim
  · exact hk.elim

end
end Go.Abs

/- DERIVED by an AI agent. Append; new variables; new slices. No program in sight. -/
namespace Go.Abs
set_option linter.unusedSimpArgs false

section
variable {P : Program} {T : Tab} {G : Ghost} {s : St} {E : Env} {a : Act} {w w' : World} {o : Oper}

theorem run_call_append {t t2 : TypeId} {x y : Operand} (ho : o.op = .call ⟨.builtin .append, #[x, y], #[t, t2]⟩) {v : Value} (h : (Builtin.append_ #[t, t2] o.type #[a.eval x, a.eval y]).run P w = .ok v w') :
    (execOp a.eval o).run P w = .ok (.value v) w' := by
  simp [execOp, ho, resolve, invoke, builtin, h]

/-- A row that append has made. -/
theorem appended_row [Held] {k : Nat} {e sz : Nat} {c : List PV} {m m' : Option Nat} {v' : Value} {vs : List Value} {fz : Bool} (hap : Appended w w' e sz m m' v' vs) (hw : WOk G E w) (hm : m = E.rm k) (hC : ∀ b, E.rm k = some b → (E.R k).kind.nd = true → G.C k b)
    (hnd : m ≠ none → (E.R k).kind.nd = true)
    {E' : Env} (h1 : E'.rm k = m') (h2 : E'.rv k = v') (h3 : (E'.R k).kind = .sli e sz fz c) (hrep : RepL w' E'.bare E'.B c vs) : RowOk w' E' G.C k := by
  unfold RowOk
  simp only [h3]
  rcases hap.phys with ⟨q1, q2, q3⟩ | ⟨b, n, cap, rest, q1, q2, q3, q4, q5, q6, q7⟩
  · refine .inl ⟨h1.trans q1, h2.trans q2, ?_⟩
    subst q3
    exact List.eq_nil_of_length_eq_zero hrep.1
  · refine .inr ⟨b, n, cap, vs, rest, h1.trans q1, ?_, h2.trans q2, q3, q4, q5, q6, q7, hrep⟩
    rcases hap.fresh b q1 with hf | hf
    · exact hC b (hm ▸ hf) (hnd (by rw [hf]; simp))
    · exact .inl (Nat.le_trans hw.kept.size hf)

theorem slAt_cells {E0 : Env} {lo sz : Nat} {c : List PV} {x : Value} (h : SlAt w E0 lo sz c x) : ∃ ax n cap vs, x = .slice ax n cap ∧ vs.length = n * sz ∧ RepL w E0.bare lo c vs ∧
    (∀ i u, vs[i]? = some u → ∃ b o, ax = some ⟨b, o, none⟩ ∧ w.cell? ⟨b, o + i, none⟩ = some u) := by
  obtain ⟨ax, n, cap, cs, rfl, hl, _, _, hc⟩ := h
  refine ⟨ax, n, cap, (List.range c.length).map cs, rfl, by simpa using hl, ⟨by simp, fun i p q => ?_⟩, fun i u hu => ?_⟩
  · obtain ⟨_, _, _, _, hr⟩ := hc i p
    simpa using hr
  · simp only [List.getElem?_map, Option.map_eq_some_iff] at hu
    obtain ⟨j, hj, rfl⟩ := hu
    obtain ⟨hlt, he⟩ := List.getElem?_eq_some_iff.1 hj
    have hi : i < c.length := by simpa using hlt
    obtain rfl : i = j := by simpa using he
    obtain ⟨b, o, ha, hcell, _⟩ := hc i hi
    exact ⟨b, o, ha, hcell⟩

theorem oneQ_rep [Held] {lo : Nat} {p : PV} {x : Value} (h : oneQ p = true) (hp : Rep w E lo p x) : x.oneCell' = true := by
  cases p <;> simp [oneQ] at h
  · rw [hp.v_eq]; exact h
  all_goals (cases hp; rfl)

theorem src_sound [Held] {y : PV} {fr : Bool} {sz : Nat} {news : List PV} {x : Value} (hs : slK s.rw y (fun a b c => a = fr ∧ b = sz ∧ c = news)) (hR : E.R = s.rw) (hw : WOk G E w) (hp : Rep w E 0 y x)
    (hone : (∀ p ∈ news, isV p = true) ∨ (fr = true ∧ ∀ p ∈ news, oneQ p = true)) :
    ∃ ax n cap vs, x = .slice ax n cap ∧ vs.length = n * sz ∧ (∀ u ∈ vs, u.oneCell' = true) ∧ (∀ i u, vs[i]? = some u → ∃ b o, ax = some ⟨b, o, none⟩ ∧ w.cell? ⟨b, o + i, none⟩ = some u) ∧
      RepL w E.bare E.B news vs := by
  obtain ⟨fr', sz', news', ⟨e1, e2, e3⟩, hat⟩ := slK_sound hs hR hw hp
  rw [e1, e2, e3] at hat
  obtain ⟨ax, n, cap, vs, h1, h2, h3, h4⟩ := slAt_cells hat
  have hq : ∀ p ∈ news, oneQ p = true := by
    rcases hone with h | h
    · intro p hp
      have := h p hp
      cases p <;> simp [isV, oneQ] at this ⊢
      exact this
    · exact h.2
  refine ⟨ax, n, cap, vs, h1, h2, fun u hu => ?_, h4, ?_⟩
  · obtain ⟨i, hi, rfl⟩ := List.getElem_of_mem hu
    have hi' : i < news.length := by rw [h3.1]; exact hi
    exact oneQ_rep (hq _ (List.getElem_mem hi')) (h3.2 i hi' hi)
  · rcases hone with h | ⟨rfl, _⟩
    · exact ⟨h3.1, fun i p q => (isV_rep (h _ (List.getElem_mem p)) (h3.2 i p q)).1⟩
    · exact ⟨h3.1, fun i p q => (h3.2 i p q).low (by simp [Env.lo])⟩

theorem append_sound [Held] (hT : T.Ok P) {d : Nat} {t t2 : TypeId} {x y : Operand} {K : St → Prop} (ho : o.op = .call ⟨.builtin .append, #[x, y], #[t, t2]⟩) (hdst : o.dst = some d) (hd : d < G.n)
    (hk : appendK T s d t t2 (s.ev x) (s.ev y) K) : ∃ s', K s' ∧ Effects P G s o s' := by
  obtain ⟨rfl, ht, hk⟩ := hk
  split at hk
  · rename_i e hte
    obtain ⟨he, hby, hk⟩ := hk
    obtain ⟨fr, sz, news, ⟨rfl, hfr, hk⟩, hdet⟩ := slK_det hk
    have hsrc := hdet (fun a b c => a = fr ∧ b = (T e).size ∧ c = news) ⟨rfl, rfl, rfl⟩
    split at hk
    · -- onto nil
      rename_i u hev
      obtain ⟨hnil, hlen, hk⟩ := hk
      refine ⟨_, hk, fun a w hs K' Q hK => ?_⟩
      obtain ⟨E, hs⟩ := hs
      have hx := eval_rep hs.slots x
      rw [hev] at hx
      have hxe := hx.v_eq
      rw [isNil_eq hnil] at hxe
      obtain ⟨ax, n, cap, vs, h1, h2, h3, h4, h5⟩ := src_sound hsrc hs.rw hs.wok (eval_rep hs.slots y) hfr
      obtain ⟨v', w', m', hrun, hap⟩ := append_phys (P := P) hT (vs := []) (m := none) (v := .slice none 0 0) o.type ht hte he hby (.inl ⟨rfl, rfl, rfl⟩) h2 h4 h3 (by rw [← h5.1]; simpa using hlen)
      rw [← hxe, ← h1] at hrun
      have hx' : Ext w w' := ⟨hap.os, hap.tape, hap.output, hap.size, fun b hb => hap.block b hb (by simp)⟩
      have hm' : ∀ b, m' = some b → w.heap.size ≤ b := fun b hb => (hap.fresh b hb).resolve_left (by simp)
      have htn := turn_new (G := G) (E := E) (k := d) (kd := .sli e (T e).size false news) (m := m') (v := v') hx' hm'
      refine eff_value (E' := E.row d _ _ _) (p := .own d ((s.rw d).ver + 1)) hs (run_call_append ho hrun) htn (fun k hk' => ?_) ?_ (by simp [hdst, hd]) (fun a' w' h => hK a' w' ?_)
      · subst hk'
        unfold RowOk
        simp only [Env.row, updF_same]
        have hrep := h5.mono (htn.lasts hs.wok).bare (Nat.le_refl _)
        rcases hap.phys with ⟨q1, q2, q3⟩ | ⟨b, n, cap, rest, q1, q2, q3, q4, q5, q6, q7⟩
        · refine .inl ⟨q1, q2, ?_⟩
          simp at q3
          subst q3
          exact List.eq_nil_of_length_eq_zero h5.1
        · exact .inr ⟨b, n, cap, vs, rest, q1, .inl (Nat.le_trans hs.wok.kept.size (hm' b q1)), q2, by simpa using q3, by simpa using q4, q5, q6, by simpa using q7, hrep⟩
      · exact .own (by simp [Env.row, updF_same, hs.rw]) fun _ _ => by simp [Env.row, updF_same]
      · have e' : (E.row d ⟨(E.R d).ver + 1, .sli e (T e).size false news⟩ m' v').R = (s.row d ⟨(s.rw d).ver + 1, .sli e (T e).size false news⟩).rw := by
          simp only [Env.row, hs.rw]; rfl
        rw [e', hdst] at h
        exact h
    · -- onto a row of the call's own
      rename_i k ver hev
      obtain ⟨hver, hk⟩ := hk
      have main : ∀ (c : List PV), ((s.rw k).kind = .nil ∧ c = [] ∨ (s.rw k).kind = .sli e (T e).size false c) → (c.length + news.length) * (T e).bytes ≤ 140737488355328 → K (appSt s d k (.sli e (T e).size false (c ++ news))) →
          ∃ s', K s' ∧ Effects P G s o s' := by
        intro c hkind hlen hk
        refine ⟨_, hk, fun a w hs K' Q hK => ?_⟩
        obtain ⟨E, hs⟩ := hs
        have hR := hs.rw
        have hx := eval_rep hs.slots x
        rw [hev] at hx
        obtain ⟨ax, n, cap, ws, h1, h2, h3, h4, h5⟩ := src_sound hsrc hs.rw hs.wok (eval_rep hs.slots y) hfr
        have hslice : (E.R k).kind.slice = true := by rw [hR]; rcases hkind with ⟨h, _⟩ | h <;> rw [h] <;> rfl
        have hnd := RK.nd_of_slice hslice
        obtain ⟨vs, hphys, hrepc⟩ : ∃ vs, Phys w e (T e).size (E.rm k) (E.rv k) vs ∧ RepL w E.bare E.B c vs := by
          have hrow := hs.wok.rows k
          unfold RowOk at hrow
          rw [hR] at hrow
          rcases hkind with ⟨h, rfl⟩ | h
          · simp only [h] at hrow
            exact ⟨[], .inl ⟨hrow.1, hrow.2, rfl⟩, ⟨rfl, fun i p => absurd p (by simp)⟩⟩
          · simp only [h] at hrow
            rcases hrow with ⟨g1, g2, g3⟩ | ⟨b, n, cap, vs, rest, g1, g2, g3, g4, g5, g6, g7, g8, g9⟩
            · subst g3; exact ⟨[], .inl ⟨g1, g2, rfl⟩, ⟨rfl, fun i p => absurd p (by simp)⟩⟩
            · exact ⟨vs, .inr ⟨b, n, cap, rest, g1, g3, g4, g5, g6, g7, g8⟩, g9⟩
        have hxe : a.eval x = E.rv k := by cases hx with | own hv hx => exact hx (by rw [hR]; exact hver) hslice
        obtain ⟨v', w', m', hrun, hap⟩ := append_phys (P := P) hT o.type ht hte he hby hphys h2 h4 h3 (by rw [← hrepc.1, ← h5.1]; exact hlen)
        rw [← hxe, ← h1] at hrun
        have hver' : (E.R k).ver = (s.rw k).ver := by rw [hR]
        have hlive : (E.R k).kind.live = false → E.rm k = none := fun hl => by
          have hrow := hs.wok.rows k
          unfold RowOk at hrow
          rw [hR] at hrow hl
          rcases hkind with ⟨h, _⟩ | h
          · simp only [h] at hrow; exact hrow.1
          · rw [h] at hl; cases hl
        have hturn : OneTurn E w w' k ⟨(s.rw k).ver + 1, .sli e (T e).size false (c ++ news)⟩ m' v' :=
          ⟨fun b hb hne => hap.block b hb fun h => (by
              have := hlive (hne h)
              rw [this] at h; cases h),
            fun b hb _ => (by
              rcases hap.fresh b hb with h | h
              · refine .inr ⟨h, hnd, fun _ => ?_⟩
                cases hl : (E.R k).kind.live with
                | true => rfl
                | false => rw [hlive hl] at h; cases h
              · exact .inl h),
            by rw [hver']; exact Nat.le_succ _, fun h => by rw [hver'] at h; simp at h, fun h => by rw [hver'] at h; simp at h, fun _ => Nat.succ_pos _, hap.size, hap.os, hap.tape, hap.output⟩
        refine eff_turn (fz := []) (p := .own k ((s.rw k).ver + 1)) hs (run_call_append ho hrun) hturn (by simp) (fun hl => ?_) ?_ (by simp [hdst, hd]) (fun a' w' h => hK a' w' ?_)
        · refine appended_row (fz := false) (c := c ++ news) hap hs.wok rfl (fun b hb hn => (hs.wok.block hb hn).2) (fun _ => hnd) (by simp [Env.turn, updF_same]) (by simp [Env.turn, updF_same]) (by simp [Env.turn, updF_same]) ?_
          exact (hrepc.mono hl.bare (Nat.le_refl _)).append (h5.mono hl.bare (Nat.le_refl _))
        · exact .own (by simp [Env.turn, updF_same]) fun _ _ => by simp [Env.turn, updF_same]
        · rw [St.freeze_nil, hdst] at h; exact h
      split at hk
      · rename_i hkind
        exact main [] (.inl ⟨hkind, rfl⟩) (by simpa using hk.1) (by simpa using hk.2)
      · rename_i e' sz' c hkind
        obtain ⟨rfl, rfl, hlen, hk⟩ := hk
        exact main c (.inr hkind) hlen hk
      · exact hk.elim
    · exact hk.elim
  · exact hk.elim

end
end Go.Abs

/- DERIVED by an AI agent. Append of a string's bytes. No program in sight. -/
namespace Go.Abs
set_option linter.unusedSimpArgs false
open Go.Lib (strCells strCells_length strCells_oneCell run_append_room_string run_append_grow_string run_firstCells_string)

/-- A string's bytes. -/
def strB (s : ByteArray) : List PV := s.data.toList.map fun b => PV.v (.int .u8 b.toNat)
theorem strB_length (s : ByteArray) : (strB s).length = s.size := by rw [strB, List.length_map, Array.length_toList]; rfl
theorem strB_rep [Held] (s : ByteArray) (w : World) (E : Env) (lo : Nat) : RepL w E lo (strB s) (strCells s) := by
  refine ⟨by rw [strB_length, strCells_length], fun i a b => ?_⟩
  simp only [strB, strCells, List.getElem_map]
  exact .v _

section
variable {P : Program} {T : Tab}
theorem append_physS [Held] (hT : T.Ok P) {t u e : TypeId} (ty : TypeId) (ht : 0 < (T t).size) (hk : (T t).k = .sli e) (hu0 : 0 < (T u).size) (hku : (T u).k = .str) (he : 0 < (T e).size) (he1 : (T e).size = 1) (hb : 0 < (T e).bytes) {w : World} {m : Option Nat} {v : Value} {vs : List Value}
    (hp : Phys w e (T e).size m v vs) (s : ByteArray) (hlen : (vs.length + s.size) * (T e).bytes ≤ 140737488355328) :
    ∃ v' w' m', (Builtin.append_ #[t, u] ty #[v, .string s]).run P w = .ok v' w' ∧ Appended w w' e (T e).size m m' v' (vs ++ strCells s) := by
  have hf := hT t ht
  have hu : P.underlying t = some (.slice e) := by have := hf.k; rw [hk] at this; exact this
  have hus : P.underlying u = some .string := by have := (hT u hu0).k; rw [hku] at this; exact this
  obtain ⟨i, z, hi, hsz, hby, hz, hzl⟩ := (hT e he).info
  have hsz' : i.size = (T e).size := hsz
  have hzs : z.cells.size = (T e).size := by rw [← Array.length_toList, hzl]; exact (hT e he).zlen
  have hsl := strCells_length s
  have hbig : vs.length + s.size ≤ 140737488355328 := Nat.le_trans (Nat.le_mul_of_pos_right _ hb) hlen
  rcases hp with ⟨rfl, rfl, rfl⟩ | ⟨b, n, cap, rest, rfl, rfl, hh, hvl, hnc, hcm, hcl⟩
  · by_cases h0 : s.size = 0
    · have hs0 : strCells s = [] := List.eq_nil_of_length_eq_zero (by rw [hsl, h0])
      refine ⟨.slice none 0 0, w, none, ?_, ⟨.inl ⟨rfl, rfl, by rw [hs0]; rfl⟩, fun _ _ _ => rfl, Nat.le_refl _, rfl, rfl, ⟨rfl, fun _ => by first | exact Nat.le_refl _ | exact Nat.le_succ _⟩, fun b h => .inl h⟩⟩
      have hf := run_firstCells_string (P := P) w i.size s
      rw [h0] at hf
      simp [Builtin.append_, run_underlying hu, run_underlying hus, sizeOf, typeInfo, hi, Builtin.lenOf, h0, hf]
    · have hr := run_append_nil_string (P := P) w t u ty e i z hu hus hi hz s (by omega) (by omega) (by
        rw [hby]
        simp at hlen; omega)
      refine ⟨_, _, some w.heap.size, hr, ⟨.inr ⟨w.heap.size, s.size, _, (Builtin.zeroCells z.cells (grownCap w s.size 0 e - s.size)).toList, rfl, rfl, ?_, by rw [he1]; simpa using hsl, grownCap_ge w s.size 0 e, grownCap_le_maxLen w s.size 0 e (by simp [maxLen]; omega), ?_⟩, fun b hb _ => ?_, by simp, rfl, rfl, ⟨rfl, fun _ => by first | exact Nat.le_refl _ | exact Nat.le_succ _⟩, fun b h => .inr (by simp at h; omega)⟩⟩
      · have := heap_alloc_new w.drew (.cells (s.data.map (fun b => Value.int .u8 b.toNat) ++ Builtin.zeroCells z.cells (grownCap w s.size 0 e - s.size)) e)
        rw [show (([] : List Value) ++ strCells s ++ (Builtin.zeroCells z.cells (grownCap w s.size 0 e - s.size)).toList).toArray = s.data.map (fun b => Value.int .u8 b.toNat) ++ Builtin.zeroCells z.cells (grownCap w s.size 0 e - s.size) from Array.toList_inj.1 (by simp [strCells])]
        exact this
      · have hge := grownCap_ge w s.size 0 e
        simp only [List.nil_append, List.length_append, Array.length_toList, size_zeroCells, hzs, hsl, he1, Nat.mul_one]
        omega
      · exact (Ext.alloc w.drew _).block b hb
  · rw [he1, Nat.mul_one] at hvl hcl
    by_cases hroom : n + s.size ≤ cap
    · have hr := run_append_room_string (P := P) w t u ty e i hu hus hi (by rw [hsz', he1]) b n cap (vs ++ rest).toArray hh s hroom (by
        simp at hcl ⊢; omega)
      refine ⟨_, _, some b, hr, ⟨.inr ⟨b, n + s.size, cap, rest.drop s.size, rfl, rfl, ?_, ?_, hroom, hcm, ?_⟩, fun k hk hne => ?_, by simp, rfl, rfl, ⟨rfl, fun _ => by first | exact Nat.le_refl _ | exact Nat.le_succ _⟩, fun b' h => .inl h⟩⟩
      · rw [setRow_heap w b _ _ e _ hh]
        congr 2
        rw [← hvl]
        simp [List.take_left', List.drop_append]
      · rw [List.length_append, hvl, hsl, he1, Nat.mul_one]
      · rw [he1, Nat.mul_one]
        simp at hcl ⊢; omega
      · exact setRow_other w b k _ (fun e => hne (by rw [e]))
    · have hold : ∀ j u, vs[j]? = some u → w.cell? ((⟨b, 0, none⟩ : Addr).add j) = some u := fun j u hj => by
        obtain ⟨hlt, rfl⟩ := List.getElem?_eq_some_iff.1 hj
        rw [add_addr, Nat.zero_add, cell_of_list hh (by simp; omega)]
        simp [List.getElem_append_left hlt]
      have hr := run_append_grow_string (P := P) w t u ty e i z hu hus hi hz ⟨b, 0, none⟩ n cap vs (by rw [hvl, hsz', he1, Nat.mul_one]) hold s (by omega) (by omega) (growslice_fits (by omega) (by
        rw [hby, ← hvl]
        omega))
      refine ⟨_, _, some w.heap.size, hr, ⟨.inr ⟨w.heap.size, n + s.size, _, (Builtin.zeroCells z.cells (grownCap w (n + s.size) cap e - (n + s.size))).toList, rfl, rfl, ?_, ?_, grownCap_ge w _ _ e, grownCap_le_maxLen w _ _ e (by simp [maxLen]; omega), ?_⟩, fun b hb _ => ?_, by simp, rfl, rfl, ⟨rfl, fun _ => by first | exact Nat.le_refl _ | exact Nat.le_succ _⟩, fun b h => .inr (by simp at h; omega)⟩⟩
      · have := heap_alloc_new w.drew (.cells (vs.toArray ++ (strCells s).toArray ++ Builtin.zeroCells z.cells (grownCap w (n + s.size) cap e - (n + s.size))) e)
        rw [show (vs ++ strCells s ++ (Builtin.zeroCells z.cells (grownCap w (n + s.size) cap e - (n + s.size))).toList).toArray = vs.toArray ++ (strCells s).toArray ++ Builtin.zeroCells z.cells (grownCap w (n + s.size) cap e - (n + s.size)) from Array.toList_inj.1 (by simp)]
        exact this
      · rw [List.length_append, hvl, hsl, he1, Nat.mul_one]
      · have hge := grownCap_ge w (n + s.size) cap e
        simp only [List.length_append, Array.length_toList, size_zeroCells, hzs, hvl, hsl, he1, Nat.mul_one]
        omega
      · exact (Ext.alloc w.drew _).block b hb
end

/-- A string's bytes appended to a slice of the call's own. -/
def appStrK (T : Tab) (s : St) (d : Nat) (t t2 : TypeId) (x : PV) (b : ByteArray) (K : St → Prop) : Prop :=
  0 < (T t).size ∧ 0 < (T t2).size ∧ (T t2).k = .str ∧ match (T t).k with
  | .sli e => (T e).size = 1 ∧ 0 < (T e).bytes ∧ (match x with
      | .own k ver => (s.rw k).ver = ver ∧ (match (s.rw k).kind with
          | .nil => b.size * (T e).bytes ≤ 140737488355328 ∧ K (appSt s d k (.sli e (T e).size false (strB b)))
          | .sli e' sz' false c => e' = e ∧ sz' = (T e).size ∧ (c.length + b.size) * (T e).bytes ≤ 140737488355328 ∧ K (appSt s d k (.sli e (T e).size false (c ++ strB b)))
          | _ => False)
      | _ => False)
  | _ => False
section
variable {P : Program} {T : Tab} {G : Ghost} {s : St} {E : Env} {a : Act} {w w' : World} {o : Oper}
theorem appStr_sound [Held] (hT : T.Ok P) {d : Nat} {t t2 : TypeId} {x y : Operand} {bs : ByteArray} {K : St → Prop} (ho : o.op = .call ⟨.builtin .append, #[x, y], #[t, t2]⟩) (hdst : o.dst = some d) (hd : d < G.n) (hy : s.ev y = .v (.string bs))
    (hk : appStrK T s d t t2 (s.ev x) bs K) : ∃ s', K s' ∧ Effects P G s o s' := by
  obtain ⟨ht, hu0, hku, hk⟩ := hk
  split at hk
  · rename_i e hte
    obtain ⟨he1, hby, hk⟩ := hk
    have he : 0 < (T e).size := by omega
    split at hk
    · -- onto a row of the call's own
      rename_i k ver hev
      obtain ⟨hver, hk⟩ := hk
      have main : ∀ (c : List PV), ((s.rw k).kind = .nil ∧ c = [] ∨ (s.rw k).kind = .sli e (T e).size false c) → (c.length + bs.size) * (T e).bytes ≤ 140737488355328 → K (appSt s d k (.sli e (T e).size false (c ++ strB bs))) →
          ∃ s', K s' ∧ Effects P G s o s' := by
        intro c hkind hlen hk
        refine ⟨_, hk, fun a w hs K' Q hK => ?_⟩
        obtain ⟨E, hs⟩ := hs
        have hR := hs.rw
        have hx := eval_rep hs.slots x
        rw [hev] at hx
        have hye : a.eval y = .string bs := by
          have := eval_rep hs.slots y
          rw [hy] at this
          exact this.v_eq
        have h5 : RepL w E.bare E.B (strB bs) (strCells bs) := strB_rep bs w _ _
        have hslice : (E.R k).kind.slice = true := by rw [hR]; rcases hkind with ⟨h, _⟩ | h <;> rw [h] <;> rfl
        have hnd := RK.nd_of_slice hslice
        obtain ⟨vs, hphys, hrepc⟩ : ∃ vs, Phys w e (T e).size (E.rm k) (E.rv k) vs ∧ RepL w E.bare E.B c vs := by
          have hrow := hs.wok.rows k
          unfold RowOk at hrow
          rw [hR] at hrow
          rcases hkind with ⟨h, rfl⟩ | h
          · simp only [h] at hrow
            exact ⟨[], .inl ⟨hrow.1, hrow.2, rfl⟩, ⟨rfl, fun i p => absurd p (by simp)⟩⟩
          · simp only [h] at hrow
            rcases hrow with ⟨g1, g2, g3⟩ | ⟨b, n, cap, vs, rest, g1, g2, g3, g4, g5, g6, g7, g8, g9⟩
            · subst g3; exact ⟨[], .inl ⟨g1, g2, rfl⟩, ⟨rfl, fun i p => absurd p (by simp)⟩⟩
            · exact ⟨vs, .inr ⟨b, n, cap, rest, g1, g3, g4, g5, g6, g7, g8⟩, g9⟩
        have hxe : a.eval x = E.rv k := by cases hx with | own hv hx => exact hx (by rw [hR]; exact hver) hslice
        obtain ⟨v', w', m', hrun, hap⟩ := append_physS (P := P) hT o.type ht hte hu0 hku he he1 hby hphys bs (by rw [← hrepc.1]; exact hlen)
        rw [← hxe, ← hye] at hrun
        have hver' : (E.R k).ver = (s.rw k).ver := by rw [hR]
        have hlive : (E.R k).kind.live = false → E.rm k = none := fun hl => by
          have hrow := hs.wok.rows k
          unfold RowOk at hrow
          rw [hR] at hrow hl
          rcases hkind with ⟨h, _⟩ | h
          · simp only [h] at hrow; exact hrow.1
          · rw [h] at hl; cases hl
        have hturn : OneTurn E w w' k ⟨(s.rw k).ver + 1, .sli e (T e).size false (c ++ strB bs)⟩ m' v' :=
          ⟨fun b hb hne => hap.block b hb fun h => (by
              have := hlive (hne h)
              rw [this] at h; cases h),
            fun b hb _ => (by
              rcases hap.fresh b hb with h | h
              · refine .inr ⟨h, hnd, fun _ => ?_⟩
                cases hl : (E.R k).kind.live with
                | true => rfl
                | false => rw [hlive hl] at h; cases h
              · exact .inl h),
            by rw [hver']; exact Nat.le_succ _, fun h => by rw [hver'] at h; simp at h, fun h => by rw [hver'] at h; simp at h, fun _ => Nat.succ_pos _, hap.size, hap.os, hap.tape, hap.output⟩
        refine eff_turn (fz := []) (p := .own k ((s.rw k).ver + 1)) hs (run_call_append ho hrun) hturn (by simp) (fun hl => ?_) ?_ (by simp [hdst, hd]) (fun a' w' h => hK a' w' ?_)
        · refine appended_row (fz := false) (c := c ++ strB bs) hap hs.wok rfl (fun b hb hn => (hs.wok.block hb hn).2) (fun _ => hnd) (by simp [Env.turn, updF_same]) (by simp [Env.turn, updF_same]) (by simp [Env.turn, updF_same]) ?_
          exact (hrepc.mono hl.bare (Nat.le_refl _)).append (h5.mono hl.bare (Nat.le_refl _))
        · exact .own (by simp [Env.turn, updF_same]) fun _ _ => by simp [Env.turn, updF_same]
        · rw [St.freeze_nil, hdst] at h; exact h
      split at hk
      · rename_i hkind
        exact main [] (.inl ⟨hkind, rfl⟩) (by simpa using hk.1) (by simpa using hk.2)
      · rename_i e' sz' c hkind
        obtain ⟨rfl, rfl, hlen, hk⟩ := hk
        exact main c (.inr hkind) hlen hk
      · exact hk.elim
    · exact hk.elim
  · exact hk.elim

end
end Go.Abs

/- DERIVED by an AI agent. New variables, new slices, calls whose rows are taken over. No program in sight. -/
namespace Go.Abs
set_option linter.unusedSimpArgs false

/-- The leaves of a result that are rows. -/
def leaves : RV → List (TypeId × Option Nat × List PV)
  | .im _ => []
  | .fr e sz c => [(e, some sz, c)]
  | .tb e e2 rows => (e, none, List.replicate rows.length .junk) :: rows.map fun r => (e2, some 1, r)
  | .ag l => (l.attach.map fun ⟨x, _⟩ => leaves x).flatten
  | .tup l => (l.attach.map fun ⟨x, _⟩ => leaves x).flatten

theorem leaves_ag (l : List RV) : leaves (.ag l) = (l.map leaves).flatten := by rw [leaves]; simp
theorem leaves_tup (l : List RV) : leaves (.tup l) = (l.map leaves).flatten := by rw [leaves]; simp

/-- The number of the row for the i-th leaf of what lands in slot d. -/
def leafId (d i : Nat) : Nat := d + 1000 * i

/-- A list of results one behind the other, the i-th leaf on. -/
def adoptL (f : RV → Nat → PV) : List RV → Nat → List PV
  | [], _ => []
  | x :: xs, i => f x i :: adoptL f xs (i + (leaves x).length)

/-- A result as the caller's own value. Two layers deep. -/
def adopt0 (vr : Nat → Nat) (d : Nat) : RV → Nat → PV
  | .im p, _ => setIf true p
  | .fr _ _ _, i => .own (leafId d i) (vr (leafId d i) + 1)
  | .tb _ _ _, i => .own (leafId d i) (vr (leafId d i) + 1)
  | .ag _, _ => .junk
  | .tup _, _ => .junk
def adopt1 (vr : Nat → Nat) (d : Nat) : RV → Nat → PV
  | .ag l, i => .ag (adoptL (adopt0 vr d) l i)
  | .tup l, i => .tup (adoptL (adopt0 vr d) l i)
  | x, i => adopt0 vr d x i
def adopt2 (vr : Nat → Nat) (d : Nat) : RV → Nat → PV
  | .ag l, i => .ag (adoptL (adopt1 vr d) l i)
  | .tup l, i => .tup (adoptL (adopt1 vr d) l i)
  | x, i => adopt0 vr d x i

/-- A table's cells name the rows behind it. -/
def tabCells (rw : Nat → Row) (d i n : Nat) : List PV := (List.range n).map fun j => .own (leafId d (i + 1 + j)) ((rw (leafId d (i + 1 + j))).ver + 1)
def leafKind (rw : Nat → Row) (d i : Nat) (e : TypeId) (sz : Option Nat) (c : List PV) : RK :=
  match sz with
  | some z => .sli e z false c
  | none => .tab e (tabCells rw d i c.length)
def addRows (rw : Nat → Row) (d : Nat) : List (TypeId × Option Nat × List PV) → Nat → Nat → Row
  | [], _ => rw
  | (e, sz, c) :: ls, i => updF (addRows rw d ls (i + 1)) (leafId d i) ⟨(rw (leafId d i)).ver + 1, leafKind rw d i e sz c⟩

/-- The state behind a call whose result lands in slot d: its rows are the caller's. -/
def adoptSt (s : St) (d : Nat) (rv : RV) : St :=
  (St.mk s.sl (addRows s.rw d (leaves rv) 0)).put (some d) (adopt2 (fun k => (s.rw k).ver) d rv 0)

/-- What OutR says of a leaf: a block, or none at nil. -/
inductive LeafAt (w : World) (E : Env) : (TypeId × Option Nat × List PV) → Value × Option Nat → Prop
  | nil {e sz : Nat} : LeafAt w E (e, some sz, []) (.slice none 0 0, none)
  | tbn {e : Nat} : LeafAt w E (e, none, []) (.slice none 0 0, none)
  | tb {e b n cap : Nat} {cells : List PV} {vs rest : List Value} (hB : E.B ≤ b) (hh : w.heap[b]? = some (.cells (vs ++ rest).toArray e (0, 0)))
      (hn : vs.length = n) (hc : n ≤ cap) (hm : cap ≤ maxLen) (hl : (vs ++ rest).length = cap) (hr : cells.length = n) :
      LeafAt w E (e, none, cells) (.slice (some ⟨b, 0, none⟩) n cap, some b)
  | fr {e sz b n cap : Nat} {cells : List PV} {vs rest : List Value} (hB : E.B ≤ b) (hh : w.heap[b]? = some (.cells (vs ++ rest).toArray e (0, 0)))
      (hn : vs.length = n * sz) (hc : n ≤ cap) (hm : cap ≤ maxLen) (hl : (vs ++ rest).length = cap * sz) (hr : RepL w E.bare E.B cells vs) :
      LeafAt w E (e, some sz, cells) (.slice (some ⟨b, 0, none⟩) n cap, some b)

inductive LeafsAt (w : World) (E : Env) : List (TypeId × Option Nat × List PV) → List (Value × Option Nat) → Prop
  | nil : LeafsAt w E [] []
  | cons {x : TypeId × Option Nat × List PV} {y : Value × Option Nat} {xs : List (TypeId × Option Nat × List PV)} {ys : List (Value × Option Nat)} (h : LeafAt w E x y) (hs : LeafsAt w E xs ys) : LeafsAt w E (x :: xs) (y :: ys)

theorem LeafsAt.append {w : World} {E : Env} {a c : List (TypeId × Option Nat × List PV)} {b d : List (Value × Option Nat)} (h : LeafsAt w E a b) (k : LeafsAt w E c d) : LeafsAt w E (a ++ c) (b ++ d) := by
  induction h with
  | nil => exact k
  | cons h _ ih => exact .cons h ih
theorem LeafsAt.length {w : World} {E : Env} {a : List (TypeId × Option Nat × List PV)} {b : List (Value × Option Nat)} (h : LeafsAt w E a b) : b.length = a.length := by
  induction h with
  | nil => rfl
  | cons h _ ih => simp [ih]

theorem OutR.leafs [Held] {w : World} {E : Env} {rv : RV} {v : Value} {lv : List (Value × Option Nat)} (h : OutR w E rv v lv) : LeafsAt w E (leaves rv) lv := by
  have flat : ∀ (l : List RV) (bss : List (List (Value × Option Nat))), l.length = bss.length → (∀ i (a : i < l.length) (c : i < bss.length), LeafsAt w E (leaves l[i]) bss[i]) → LeafsAt w E (l.map leaves).flatten bss.flatten := by
    intro l
    induction l with
    | nil => intro bss h _; cases bss with | nil => exact .nil | cons x y => simp at h
    | cons x xs ih =>
      intro bss h hh
      cases bss with
      | nil => simp at h
      | cons y ys =>
        simp only [List.map_cons, List.flatten_cons]
        exact (hh 0 (by simp) (by simp)).append (ih ys (by simpa using h) fun i a c => hh (i + 1) (by simpa using a) (by simpa using c))
  induction h with
  | im h => rw [leaves]; exact .nil
  | nil => rw [leaves]; exact .cons .nil .nil
  | fr hB hh hn hc hm hl hr => rw [leaves]; exact .cons (.fr hB hh hn hc hm hl hr) .nil
  | tbn => rw [leaves]; exact .cons .tbn .nil
  | @tb e e2 b n cap rows vs rest lvs hB hh hn hc hm hl h1 h2 hv hin ih =>
    rw [leaves]
    refine .cons (.tb hB hh hn hc hm hl (by simpa using h1)) ?_
    have key : ∀ (rows : List (List PV)) (vs : List Value) (lvs : List (Value × Option Nat)), rows.length = vs.length → rows.length = lvs.length →
        (∀ i (a : i < rows.length) (b : i < vs.length) (c : i < lvs.length), LeafsAt w E (leaves (.fr e2 1 rows[i])) [lvs[i]]) → LeafsAt w E (rows.map fun r => (e2, some 1, r)) lvs := by
      intro rows
      induction rows with
      | nil => intro vs lvs _ h _; cases lvs with | nil => exact .nil | cons x y => simp at h
      | cons r rs ih =>
        intro vs lvs g1 g2 g3
        cases lvs with
        | nil => simp at g2
        | cons x xs =>
          cases vs with
          | nil => simp at g1
          | cons v vs =>
            have h0 := g3 0 (by simp) (by simp) (by simp)
            rw [leaves] at h0
            simp only [List.getElem_cons_zero] at h0
            cases h0 with
            | cons h0 _ => exact .cons h0 (ih vs xs (by simpa using g1) (by simpa using g2) fun i a b c => g3 (i + 1) (by simpa using a) (by simpa using b) (by simpa using c))
    exact key rows vs lvs (by omega) (by omega) ih
  | @ag l vs bss e1 e2 hh ih => rw [leaves_ag]; exact flat l bss e2 fun i a c => ih i a (by omega) c
  | @tup l vs bss e1 e2 hh ih => rw [leaves_tup]; exact flat l bss e2 fun i a c => ih i a (by omega) c

/-- The caller's rows for the leaves from the i-th on. -/
theorem LeafsAt.get' {w : World} {E : Env} {a : List (TypeId × Option Nat × List PV)} {b : List (Value × Option Nat)} (h : LeafsAt w E a b) : ∀ i (p : i < a.length) (q : i < b.length), LeafAt w E a[i] b[i] := by
  induction h with
  | nil => intro i p; simp at p
  | cons h _ ih =>
    intro i p q
    cases i with
    | zero => exact h
    | succ i => exact ih i (by simpa using p) (by simpa using q)
/-- A table's rows are the leaves behind it. -/
def Links (w : World) (ls : List (TypeId × Option Nat × List PV)) (lv : List (Value × Option Nat)) : Prop :=
  ∀ (i : Nat) (e : TypeId) (c : List PV) (b n cap : Nat), ls[i]? = some (e, none, c) → lv[i]? = some (.slice (some ⟨b, 0, none⟩) n cap, some b) →
    ∀ vs rest : List Value, w.heap[b]? = some (.cells (vs ++ rest).toArray e (0, 0)) → vs.length = n → ∀ j (h : j < vs.length), (lv[i + 1 + j]?).map (·.1) = some vs[j]
theorem Links.append {w : World} {a c : List (TypeId × Option Nat × List PV)} {b d : List (Value × Option Nat)} (hl : a.length = b.length) (h : Links w a b) (k : Links w c d) : Links w (a ++ c) (b ++ d) := by
  intro i e cc bb n cap h1 h2 vs rest hh hn j hj
  by_cases hi : i < a.length
  · rw [List.getElem?_append_left hi] at h1
    rw [List.getElem?_append_left (by omega)] at h2
    have := h i e cc bb n cap h1 h2 vs rest hh hn j hj
    cases hb : b[i + 1 + j]? with
    | none => rw [hb] at this; cases this
    | some x =>
      rw [List.getElem?_append_left (List.getElem?_eq_some_iff.1 hb).1]
      exact this
  · rw [List.getElem?_append_right (by omega)] at h1
    rw [List.getElem?_append_right (by omega)] at h2
    have := k (i - a.length) e cc bb n cap h1 (by rw [hl]; exact h2) vs rest hh hn j hj
    rw [List.getElem?_append_right (by omega)]
    rw [show i - a.length + 1 + j = i + 1 + j - b.length by omega] at this
    exact this
theorem Links.nil (w : World) : Links w [] [] := fun i e c b n cap h => by simp at h
theorem Links.one {w : World} {e : TypeId} {sz : Nat} {c : List PV} {x : Value × Option Nat} : Links w [(e, some sz, c)] [x] := fun i e c b n cap h => by
  cases i <;> simp at h
theorem OutR.links [Held] {w : World} {E : Env} {rv : RV} {v : Value} {lv : List (Value × Option Nat)} (h : OutR w E rv v lv) : Links w (leaves rv) lv := by
  have flat : ∀ (l : List RV) (bss : List (List (Value × Option Nat))), l.length = bss.length → (∀ i (a : i < l.length) (c : i < bss.length), (leaves l[i]).length = bss[i].length ∧ Links w (leaves l[i]) bss[i]) → Links w (l.map leaves).flatten bss.flatten := by
    intro l
    induction l with
    | nil => intro bss h _; cases bss with | nil => exact Links.nil w | cons x y => simp at h
    | cons x xs ih =>
      intro bss h hh
      cases bss with
      | nil => simp at h
      | cons y ys =>
        simp only [List.map_cons, List.flatten_cons]
        have h0 := hh 0 (by simp) (by simp)
        exact Links.append h0.1 h0.2 (ih ys (by simpa using h) fun i a c => hh (i + 1) (by simpa using a) (by simpa using c))
  induction h with
  | im h => rw [leaves]; exact Links.nil w
  | nil => rw [leaves]; exact Links.one
  | fr => rw [leaves]; exact Links.one
  | tbn => rw [leaves]; intro i e c b n cap h1 h2; cases i <;> simp at h1 h2
  | @tb e e2 b n cap rows vs rest lvs hB hh hn hc hm hl h1 h2 hv hin ih =>
    rw [leaves]
    intro i e' c' b' n' cap' g1 g2 vs' rest' g3 g4 j hj
    cases i with
    | zero =>
      simp only [List.getElem?_cons_zero, Option.some.injEq, Prod.mk.injEq, Value.slice.injEq] at g1 g2
      obtain ⟨rfl, _, _⟩ := g1
      obtain ⟨⟨e1, e2', e3⟩, e4⟩ := g2
      subst e2' e4
      rw [hh] at g3
      simp only [Option.some.injEq, Obj.cells.injEq, and_true] at g3
      have e5 : vs ++ rest = vs' ++ rest' := by simpa using congrArg Array.toList g3
      obtain ⟨rfl, _⟩ := List.append_inj e5 (by omega)
      rw [show 0 + 1 + j = j + 1 by omega, List.getElem?_cons_succ, List.getElem?_eq_getElem (by omega)]
      simp [hv j hj (by omega)]
    | succ i =>
      exfalso
      rw [List.getElem?_cons_succ, List.getElem?_map] at g1
      cases hr : rows[i]? with
      | none => rw [hr] at g1; cases g1
      | some r => rw [hr] at g1; simp at g1
  | @ag l vs bss e1 e2 hh ih => rw [leaves_ag]; exact flat l bss e2 fun i a c => ⟨(hh i a (by omega) c).leafs.length.symm, ih i a (by omega) c⟩
  | @tup l vs bss e1 e2 hh ih => rw [leaves_tup]; exact flat l bss e2 fun i a c => ⟨(hh i a (by omega) c).leafs.length.symm, ih i a (by omega) c⟩

def Agr (E : Env) (vr : Nat → Nat) (d i : Nat) (lv : List (Value × Option Nat)) : Prop := ∀ j (h : j < lv.length), (E.R (leafId d (i + j))).ver = vr (leafId d (i + j)) + 1 ∧ E.rv (leafId d (i + j)) = lv[j].1

theorem Agr.left {E : Env} {vr : Nat → Nat} {d i : Nat} {x y : List (Value × Option Nat)} (h : Agr E vr d i (x ++ y)) : Agr E vr d i x := fun j hj => by
  have := h j (by simp; omega)
  rwa [List.getElem_append_left hj] at this
theorem Agr.right {E : Env} {vr : Nat → Nat} {d i : Nat} {x y : List (Value × Option Nat)} (h : Agr E vr d i (x ++ y)) : Agr E vr d (i + x.length) y := fun j hj => by
  have := h (x.length + j) (by simp; omega)
  rw [List.getElem_append_right (by omega)] at this
  simpa [Nat.add_assoc] using this

section
variable {w : World} {E E' : Env} {vr : Nat → Nat} {d : Nat}

def Adopts (w : World) (E E' : Env) (vr : Nat → Nat) (d : Nat) (f : RV → Nat → PV) : Prop :=
  ∀ (rv : RV) (v : Value) (lv : List (Value × Option Nat)) (i : Nat), OutR w E rv v lv → Agr E' vr d i lv → Rep w E' 0 (f rv i) v

theorem adoptL_rep [Held] {f : RV → Nat → PV} (hf : Adopts w E E' vr d f) : ∀ (l : List RV) (vs : List Value) (bss : List (List (Value × Option Nat))) (i : Nat), l.length = vs.length → l.length = bss.length →
    (∀ j (a : j < l.length) (b : j < vs.length) (c : j < bss.length), OutR w E l[j] vs[j] bss[j]) → Agr E' vr d i bss.flatten → RepL w E' 0 (adoptL f l i) vs := by
  intro l
  induction l with
  | nil => intro vs bss i h1 _ _ _; cases vs with | nil => exact ⟨rfl, fun i a => absurd a (by simp [adoptL])⟩ | cons x y => simp at h1
  | cons x xs ih =>
    intro vs bss i h1 h2 hh hag
    cases vs with
    | nil => simp at h1
    | cons v vs =>
      cases bss with
      | nil => simp at h2
      | cons b bss =>
        have h0 := hh 0 (by simp) (by simp) (by simp)
        simp only [List.getElem_cons_zero] at h0
        rw [List.flatten_cons] at hag
        have hx := hf x v b i h0 hag.left
        have hlen : b.length = (leaves x).length := h0.leafs.length
        have hrest := ih vs bss (i + (leaves x).length) (by simpa using h1) (by simpa using h2) (fun j a b c => hh (j + 1) (by simpa using a) (by simpa using b) (by simpa using c)) (by rw [← hlen]; exact hag.right)
        refine ⟨by simp [adoptL, hrest.1], fun j a b => ?_⟩
        cases j with
        | zero => exact hx
        | succ j => exact hrest.2 j (by simpa [adoptL] using a) (by simpa using b)

theorem adopt0_rep [Held] (hl : Lasts w w E.bare E'.bare) (hB : E'.B ≤ E.B) : Adopts w E E' vr d (adopt0 vr d) := by
  intro rv v lv i h hag
  have own : ∀ {v' : Value} {m : Option Nat} {lvs : List (Value × Option Nat)}, Agr E' vr d i ((v', m) :: lvs) → Rep w E' 0 (.own (leafId d i) (vr (leafId d i) + 1)) v' := fun hag => by
    have := hag 0 (by simp)
    simp at this
    exact .own (by rw [this.1]; exact Nat.le_refl _) fun _ _ => this.2.symm
  cases h with
  | im h => exact rep_setIf (h.mono hl (Nat.le_refl _)) (by simpa [Env.lo] using hB)
  | nil => exact own hag
  | fr => exact own hag
  | tbn => exact own hag
  | tb => exact own hag
  | ag => exact .junk _
  | tup => exact .junk _

theorem adopt1_rep [Held] (hl : Lasts w w E.bare E'.bare) (hB : E'.B ≤ E.B) : Adopts w E E' vr d (adopt1 vr d) := by
  intro rv v lv i h hag
  have h0 := adopt0_rep (vr := vr) (d := d) hl hB
  cases h with
  | @im p _ h => exact h0 (.im p) _ _ i (.im h) hag
  | @nil e sz => exact h0 (.fr e sz []) _ _ i .nil hag
  | @fr e sz _ _ _ cells _ _ a b c k f g j => exact h0 (.fr e sz cells) _ _ i (.fr a b c k f g j) hag
  | @tbn e e2 => exact h0 (.tb e e2 []) _ _ i .tbn hag
  | @tb e e2 _ _ _ rows _ _ _ a b c k f g j l m => exact h0 (.tb e e2 rows) _ _ i (.tb a b c k f g j l m ‹_›) hag
  | ag e1 e2 hh => have := adoptL_rep h0 _ _ _ i e1 e2 hh hag; exact .ag this.1 this.2
  | tup e1 e2 hh => have := adoptL_rep h0 _ _ _ i e1 e2 hh hag; exact .tup this.1 this.2

theorem adopt2_rep [Held] (hl : Lasts w w E.bare E'.bare) (hB : E'.B ≤ E.B) : Adopts w E E' vr d (adopt2 vr d) := by
  intro rv v lv i h hag
  have h0 := adopt0_rep (vr := vr) (d := d) hl hB
  have h1 := adopt1_rep (vr := vr) (d := d) hl hB
  cases h with
  | @im p _ h => exact h0 (.im p) _ _ i (.im h) hag
  | @nil e sz => exact h0 (.fr e sz []) _ _ i .nil hag
  | @fr e sz _ _ _ cells _ _ a b c k f g j => exact h0 (.fr e sz cells) _ _ i (.fr a b c k f g j) hag
  | @tbn e e2 => exact h0 (.tb e e2 []) _ _ i .tbn hag
  | @tb e e2 _ _ _ rows _ _ _ a b c k f g j l m => exact h0 (.tb e e2 rows) _ _ i (.tb a b c k f g j l m ‹_›) hag
  | ag e1 e2 hh => have := adoptL_rep h1 _ _ _ i e1 e2 hh hag; exact .ag this.1 this.2
  | tup e1 e2 hh => have := adoptL_rep h1 _ _ _ i e1 e2 hh hag; exact .tup this.1 this.2
end

end Go.Abs
