/- DERIVED by an AI agent. Code; a function's contract from its text. No program in sight. -/
import Derived.Test.YtfjjopfeipggiaaA24
namespace Go.Abs
set_option linter.unusedSimpArgs false
set_option linter.unusedVariables false

theorem put_id {s : St} {d : Nat} {p : PV} (h : s.sl d = p) : s.put (some d) p = s := by
  unfold St.put
  have : (fun i => if i = d then p else s.sl i) = s.sl := by
    funext i
    by_cases e : i = d
    · rw [if_pos e, e, h]
    · rw [if_neg e]
  show ({ sl := fun i => if i = d then p else s.sl i, rw := s.rw } : St) = s
  rw [this]

section
variable {P : Program} {T : Tab} {G : Ghost} {ops : Array Oper}

theorem draw_trace (hT : T.Ok P) : ∀ (l : List Oper) (acc : List Ent) (s : St) (K : St → Prop), (∀ o ∈ l, ∀ d, o.dst = some d → d < G.n) → drawK P T ops acc l s K → ∃ tr s', Tr P G ops l s tr s' ∧ lines ops (acc.reverse ++ tr.map (·.e)) = true ∧ K s' := by
  intro l
  induction l with
  | nil => intro acc s K _ h; exact ⟨[], s, .nil s, by simpa using h.1, h.2⟩
  | cons o os ih =>
    intro acc s K hd hk
    have hd0 := hd o (by simp)
    have hds : ∀ o ∈ os, ∀ d, o.dst = some d → d < G.n := fun o ho => hd o (by simp [ho])
    have run : ∀ (hg : gVal ops s o = some true), dK P T s o (fun e s2 => drawK P T ops (e :: acc) os s2 K) → ∃ tr s', Tr P G ops (o :: os) s tr s' ∧ lines ops (acc.reverse ++ tr.map (·.e)) = true ∧ K s' := fun hg hk => by
      obtain ⟨x, hx, hr, he⟩ := d_local (G := G) hT hd0 hk
      obtain ⟨tr, s', ht, hl, hk'⟩ := ih _ _ K hds hx
      exact ⟨x :: tr, s', .cons (.step hg hr he) ht, by simpa using hl, hk'⟩
    have skp : gVal ops s o = some false → drawK P T ops (⟨[], .ids []⟩ :: acc) os (s.put o.dst (.v undef)) K → ∃ tr s', Tr P G ops (o :: os) s tr s' ∧ lines ops (acc.reverse ++ tr.map (·.e)) = true ∧ K s' := fun hg hk => by
      obtain ⟨tr, s', ht, hl, hk'⟩ := ih _ _ K hds hk
      have e : s.step o ⟨.v undef, s.rw, ⟨[], .ids []⟩⟩ = s.put o.dst (.v undef) := by unfold St.step; rfl
      exact ⟨⟨.v undef, s.rw, ⟨[], .ids []⟩⟩ :: tr, s', .cons (.skip hg rfl rfl rfl) (by rw [e]; exact ht), by simpa using hl, hk'⟩
    simp only [drawK, guardK] at hk
    cases hg : o.guard with
    | none =>
      simp only [hg] at hk
      exact run (by simp [gVal, hg]) hk
    | some jw =>
      obtain ⟨j, want⟩ := jw
      simp only [hg] at hk
      split at hk
      · rename_i d hdj
        split at hk
        · rename_i b hb
          by_cases hbw : b = want
          · have h1 := hk.1 hbw
            rw [put_id (by rw [hb, hbw])] at h1
            exact run (by simp [gVal, hg, hdj, hb, hbw]) h1
          · have hbw' : b = !want := by cases b <;> cases want <;> simp_all
            have h2 := hk.2 hbw'
            rw [put_id (s := s) (by rw [hb, hbw'])] at h2
            exact skp (by simp [gVal, hg, hdj, hb, hbw]) h2
        · rename_i cs hb
          exact skp (by simp [gVal, hg, hdj, hb]) hk
        · exact hk.elim
      · exact hk.elim

theorem draw_sound (hT : T.Ok P) (hm : P.follows .mixedOrders = true) {id : Nat} (ho : orderOk ops = true) {s : St} {K : St → Prop} (hd : ∀ o ∈ ops, ∀ d, o.dst = some d → d < G.n) (hk : drawK P T ops [] ops.toList s K) {Q : Exit → Act → World → Prop}
    (hQ : ∀ s' a' w', K s' → Sim G s' a' w' → Q .normal a' w') {a : Act} {w : World} (hs : Sim G s a w) : (Code.region id ops true).wp P Q a w := by
  obtain ⟨tr, s', ht, hln, hk'⟩ := draw_trace (G := G) hT ops.toList [] s K (fun o h => hd o (by simpa using h)) hk
  refine wp_region_any hm ?_
  obtain ⟨E, hsE⟩ := hs
  have hs1 : Sim G s a w.drew := ⟨E, hsE.ext (Ext.drew w)⟩
  have h0 : ∀ k, (Array.replicate ops.size false).getD k false = false := fun k => by
    rw [Array.getD_eq_getD_getElem?, Array.getElem?_replicate]; split <;> rfl
  have e0 : (fun k => (Array.replicate ops.size false).getD k false) = fun _ => false := funext h0
  refine draw_exec (ordered_of ho) (lined_of (by simpa using hln)) ht hd (fun a w h => hQ s' a w hk' h) ops.size _ a w.drew (by simp) ?_ ?_ ?_
  · rw [e0]; intro j oj hj h; cases h
  · rw [e0]
    have l0 : ∀ n (p : Nat → Bool), lastIdx n (fun k => false && p k) = none := by
      intro n p; induction n with
      | zero => rfl
      | succ n ih => simp only [lastIdx]; simpa using ih
    have e : stD ops tr s (fun _ => false) = s := by
      unfold stD
      have e1 : slotD ops.toList tr s (fun _ => false) = s.sl := by funext t; unfold slotD; rw [l0]
      have e2 : rowsD ops.toList tr s (fun _ => false) = s.rw := by funext k; unfold rowsD; rw [l0]
      rw [e1, e2]
    rw [e]; exact hs1
  · have : (Array.replicate ops.size false).toList.length = ops.size := by simp
    exact Nat.le_trans List.count_le_length (Nat.le_of_eq this)
end

/-! ### code -/

inductive AX where
  | norm
  | exit (id : Nat)
  | ret

def AX.blk (id : Nat) (Q : AX → St → Prop) : AX → St → Prop
  | .norm, s => Q .norm s
  | .ret, s => Q .ret s
  | .exit i, s => if i = id then Q .norm s else Q (.exit i) s
def AX.seq (K : St → Prop) (Q : AX → St → Prop) : AX → St → Prop
  | .norm, s => K s
  | .ret, s => Q .ret s
  | .exit i, s => Q (.exit i) s

/-- A loop: a relation at its head, a measure. -/
def loopK (body : (AX → St → Prop) → St → Prop) (Q : AX → St → Prop) (s : St) : Prop :=
  ∃ (α : Type) (I : α → St → Prop) (μ : α → Nat), (∃ x s0, Wk s s0 ∧ I x s0) ∧
    ∀ x s1, I x s1 → body (AX.seq (fun s2 => ∃ x' s3, Wk s2 s3 ∧ I x' s3 ∧ μ x' < μ x) Q) s1

def cwp (P : Program) (T : Tab) : Code → (AX → St → Prop) → St → Prop
  | .skip, Q, s => Q .norm s
  | .region _ ops draw, Q, s => (match draw with
    | false => opsK P T ops ops.toList s (Q .norm)
    | true => orderOk ops = true ∧ drawK P T ops [] ops.toList s (Q .norm))
  | .seq x y, Q, s => cwp P T x (AX.seq (cwp P T y Q) Q) s
  | .cond c x y, Q, s => (match s.ev c with | .v (.bool b) => (b = true → cwp P T x Q s) ∧ (b = false → cwp P T y Q s) | _ => False)
  | .block id x, Q, s => cwp P T x (AX.blk id Q) s
  | .loop x, Q, s => loopK (cwp P T x) Q s
  | .exit id, Q, s => Q (.exit id) s
  | .ret, Q, s => Q .ret s
  | .label _, Q, s => Q .norm s
  | _, _, _ => False

/-- All destinations of a text lie in the frame. -/
def fits (n : Nat) : Code → Bool
  | .region _ ops _ => ops.all fun o => match o.dst with | some d => decide (d < n) | none => true
  | .seq x y => fits n x && fits n y
  | .cond _ x y => fits n x && fits n y
  | .block _ x => fits n x
  | .loop x => fits n x
  | _ => true

/-- The abstract end as the model's. -/
def lift (G : Ghost) (Q : AX → St → Prop) : Exit → Act → World → Prop
  | .normal, a, w => ∃ s, Sim G s a w ∧ Q .norm s
  | .exit id, a, w => ∃ s, Sim G s a w ∧ Q (.exit id) s
  | .ret, a, w => ∃ s, Sim G s a w ∧ Q .ret s
  | _, _, _ => False

section
variable {P : Program} {T : Tab} {G : Ghost}

theorem cwp_sound (hT : T.Ok P) (hm : P.follows .mixedOrders = true) : ∀ (c : Code), fits G.n c = true → ∀ (Q : AX → St → Prop) (s : St), cwp P T c Q s → ∀ (a : Act) (w : World), Sim G s a w → c.wp P (lift G Q) a w := by
  intro c
  induction c with
  | skip => intro _ Q s hk a w hs; exact wp_skip ⟨s, hs, hk⟩
  | region id ops draw =>
    intro hf Q s hk a w hs
    have hd : ∀ o ∈ ops, ∀ d, o.dst = some d → d < G.n := fun o ho d hod => by
      simp only [fits, Array.all_eq_true'] at hf
      have := hf o ho
      rw [hod] at this
      simpa using this
    cases draw with
    | false =>
      have hk' : opsK P T ops ops.toList s (Q .norm) := hk
      exact wp_region_list (ops_sound hT ops.toList s (Q .norm) (fun o h => hd o (by simpa using h)) hk' (fun s' a' w' hq hs' => ⟨s', hs', hq⟩) a w hs)
    | true =>
      have hk' : orderOk ops = true ∧ drawK P T ops [] ops.toList s (Q .norm) := hk
      exact draw_sound hT hm hk'.1 hd hk'.2 (fun s' a' w' hq hs' => ⟨s', hs', hq⟩) hs
  | seq x y ihx ihy =>
    intro hf Q s hk a w hs
    simp only [fits, Bool.and_eq_true] at hf
    refine wp_seq (wp_mono (ihx hf.1 _ s hk a w hs) fun e a' w' h => ?_)
    cases e with
    | normal => obtain ⟨s', hs', hq⟩ := h; exact ihy hf.2 Q s' hq a' w' hs'
    | exit id => exact h
    | ret => exact h
    | goto l => exact h.elim
    | panic ch => exact h.elim
    | outgrown => exact h.elim
  | cond c x y ihx ihy =>
    intro hf Q s hk a w hs
    simp only [fits, Bool.and_eq_true] at hf
    simp only [cwp] at hk
    split at hk
    · rename_i b hb
      obtain ⟨E, hsE⟩ := hs
      have hv := eval_rep hsE.slots c
      rw [hb] at hv
      refine wp_cond hv.v_eq ?_
      cases b with
      | true => exact ihx hf.1 Q s (hk.1 rfl) a w ⟨E, hsE⟩
      | false => exact ihy hf.2 Q s (hk.2 rfl) a w ⟨E, hsE⟩
    · exact hk.elim
  | block id x ih =>
    intro hf Q s hk a w hs
    refine wp_block (wp_mono (ih hf _ s hk a w hs) fun e a' w' h => ?_)
    cases e with
    | normal => exact h
    | exit i =>
      obtain ⟨s', hs', hq⟩ := h
      simp only [Exit.inBlock]
      simp only [AX.blk] at hq
      by_cases hi : i = id
      · rw [if_pos hi] at hq ⊢; exact ⟨s', hs', hq⟩
      · rw [if_neg hi] at hq ⊢; exact ⟨s', hs', hq⟩
    | ret => exact h
    | goto l => exact h.elim
    | panic ch => exact h.elim
    | outgrown => exact h.elim
  | loop x ih =>
    intro hf Q s hk a w hs
    obtain ⟨α, I, μ, ⟨x0, s0, hw0, hI0⟩, hround⟩ := hk
    -- the measure is a ghost's: told by well-founded induction
    have key : ∀ n x1 s1, μ x1 = n → I x1 s1 → ∀ a w, Sim G s1 a w → ∀ (b : Frame) (k : List Item) (cs : List Frame),
        ∃ e a' w', lift G Q e a' w' ∧ Arrives P (lone (b.at a (.code x :: .inLoop x :: k)) cs w) b k cs e a' w' := by
      intro n
      induction n using Nat.strongRecOn with
      | _ n ihn =>
        intro x1 s1 hn hI a w hs b k cs
        obtain ⟨e, a₁, w₁, hq, harr⟩ := ih hf _ s1 (hround x1 s1 hI) a w hs b (.inLoop x :: k) cs
        cases e with
        | normal =>
          obtain ⟨s2, hs2, x', s3, hw3, hI3, hlt⟩ := hq
          obtain ⟨e₂, a₂, w₂, hq₂, harr₂⟩ := ihn (μ x') (hn ▸ hlt) x' s3 rfl hI3 a₁ w₁ (hw3 G a₁ w₁ hs2) b k cs
          exact ⟨e₂, a₂, w₂, hq₂, .of_steps (Steps.trans harr (.one step_inLoop)) harr₂⟩
        | exit id => exact ⟨.exit id, a₁, w₁, hq, .pass (x := .inLoop x) rfl (fun _ _ => .inl (by simp)) harr⟩
        | ret => exact ⟨.ret, a₁, w₁, hq, .pass (x := .inLoop x) rfl (fun _ _ => .inl (by simp)) harr⟩
        | goto l => exact hq.elim
        | panic ch => exact hq.elim
        | outgrown => exact hq.elim
    intro b k cs
    obtain ⟨e, a', w', hq, harr⟩ := key _ x0 s0 rfl hI0 a w (hw0 G a w hs) b k cs
    exact ⟨e, a', w', hq, .of_steps (.one step_loop) harr⟩
  | exit id => intro _ Q s hk a w hs; exact wp_exit ⟨s, hs, hk⟩
  | ret => intro _ Q s hk a w hs; exact wp_ret ⟨s, hs, hk⟩
  | label l => intro _ Q s hk a w hs; exact wp_label ⟨s, hs, hk⟩
  | rangeFunc _ _ _ _ => intro _ Q s hk; exact hk.elim
  | scope _ _ => intro _ Q s hk; exact hk.elim
  | goto _ => intro _ Q s hk; exact hk.elim
  | refuse _ => intro _ Q s hk; exact hk.elim
end
end Go.Abs
