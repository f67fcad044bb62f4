/- DERIVED by an AI agent. A function's contract from its text: results. No program in sight. -/
import Derived.Test.YtfjjopfeipggiaaA25
namespace Go.Abs
set_option linter.unusedSimpArgs false
set_option linter.unusedVariables false

/-- Readings above a bound last where what is above it lasts. -/
theorem Rep.above {w : World} {E E' : Env} {lo : Nat} {p : PV} {x : Value} (h : Rep w E lo p x) (hR : ∀ k, (E.R k) = ⟨0, .dead⟩) (hR' : ∀ k, (E'.R k) = ⟨0, .dead⟩) (hB : E.B = 0) (hB' : E'.B = 0)
    (hL : ∀ b, lo ≤ b → ¬ E.L b → ¬ E'.L b) : Rep w E' lo p x := by
  induction h generalizing E' with
  | v x => exact .v x
  | @sl E lo fr sz len cap cells a cs hl hc hm hr hcs ih =>
    have e : E.lo lo fr = lo := by simp [Env.lo, hB]
    have e' : E'.lo lo fr = lo := by simp [Env.lo, hB']
    refine .sl cs hl hc hm (fun i hi => ?_) (fun i hi => ?_)
    · obtain ⟨b, o, ha, hb, hLb, hcell⟩ := hr i hi
      rw [e] at hb
      exact ⟨b, o, ha, by rw [e']; exact hb, hL b hb hLb, hcell⟩
    · have := ih i hi (E' := E'.bare) (fun _ => rfl) (fun _ => rfl) rfl rfl (fun b hb h => hL b (by rw [e] at hb; exact hb) h)
      rw [e'] ; rw [e] at this; exact this
  | @own E lo k ver x hv hx =>
    refine .own (by rw [hR'] ; rw [hR] at hv; exact hv) fun _ hs => ?_
    rw [hR'] at hs; cases hs
  | @ref E lo k ver off x hv hx =>
    refine .ref (by rw [hR'] ; rw [hR] at hv; exact hv) fun _ hs => ?_
    rw [hR'] at hs; cases hs
  | @eref E lo fr cells off b o cs hr hcs ih =>
    have e : E.lo lo fr = lo := by simp [Env.lo, hB]
    have e' : E'.lo lo fr = lo := by simp [Env.lo, hB']
    refine .eref cs (fun i hi => ?_) (fun i hi => ?_)
    · obtain ⟨hb, hLb, hcell⟩ := hr i hi
      rw [e] at hb
      exact ⟨by rw [e']; exact hb, hL _ hb hLb, hcell⟩
    · have := ih i hi (E' := E'.bare) (fun _ => rfl) (fun _ => rfl) rfl rfl (fun b hb h => hL b (by rw [e] at hb; exact hb) h)
      rw [e']; rw [e] at this; exact this
  | ag hl _ ih => exact .ag hl fun i a b => ih i a b hR hR' hB hB' hL
  | tup hl _ ih => exact .tup hl fun i a b => ih i a b hR hR' hB hB' hL
  | clo hl _ ih => exact .clo hl fun i a b => ih i a b hR hR' hB hB' hL
  | junk x => exact .junk x

/-! ### results -/

/-- A leaf handed back: which rows go with it. -/
def out0 (rw : Nat → Row) (p : PV) (rv : RV) (K : List Nat → Prop) : Prop :=
  match rv with
  | .im q => (match p with
      | .v x => q = .v x ∧ K []
      | .sl fr sz c => fr = true ∧ (∃ f, q = .sl f sz c) ∧ K []
      | _ => False)
  | .fr e sz c => (match p with
      | .v x => isNil x = true ∧ c = [] ∧ K []
      | .own k ver => k < lent ∧ (rw k).ver = ver ∧ (match (rw k).kind with
          | .nil => c = [] ∧ K []
          | .sli e' sz' false c' => e' = e ∧ sz' = sz ∧ c' = c ∧ K [k]
          | _ => False)
      | _ => False)
  | _ => False

def outL (f : PV → RV → (List Nat → Prop) → Prop) : List PV → List RV → (List Nat → Prop) → Prop
  | [], [], K => K []
  | p :: ps, r :: rs, K => f p r fun a => outL f ps rs fun b => K (a ++ b)
  | _, _, _ => False

def out1 (rw : Nat → Row) (p : PV) (rv : RV) (K : List Nat → Prop) : Prop :=
  match rv with
  | .ag l => (match p with | .ag ps => outL (out0 rw) ps l K | _ => False)
  | .tup l => (match p with | .tup ps => outL (out0 rw) ps l K | _ => False)
  | r => out0 rw p r K

def out2 (rw : Nat → Row) (p : PV) (rv : RV) (K : List Nat → Prop) : Prop :=
  match rv with
  | .ag l => (match p with | .ag ps => outL (out1 rw) ps l K | _ => False)
  | .tup l => (match p with | .tup ps => outL (out1 rw) ps l K | _ => False)
  | r => out0 rw p r K

section
variable {G : Ghost} {E : Env} {w : World}

/-- The blocks of rows, as far as they have some. -/
def blocksOf (E : Env) (ids : List Nat) : List Nat := ids.filterMap E.rm

/-- What a leaf's hand-back gives: whatever list of rows goes along with it, once they are the result's. -/
def Outs (G : Ghost) (E : Env) (w : World) (f : PV → RV → (List Nat → Prop) → Prop) : Prop :=
  ∀ (p : PV) (rv : RV) (K : List Nat → Prop) (v : Value), f p rv K → Rep w E 0 p v → ∃ ids, K ids ∧ (∀ k ∈ ids, k < lent ∧ ∃ e sz c, (E.R k).kind = .sli e sz false c) ∧
    ∀ bs : List Nat, (∀ b ∈ bs, ∃ k, E.rm k = some b ∧ (E.R k).kind.live = true) → ∃ lv, OutR w (Env.out G.w0.heap.size bs) rv v lv ∧ blk lv = blocksOf E ids

theorem out0_sound (hw : WOk G E w) : Outs G E w (out0 E.R) := by
  intro p rv K v hk hp
  have hB : E.B = G.w0.heap.size := hw.base
  have above : ∀ (bs : List Nat), (∀ b ∈ bs, ∃ k, E.rm k = some b ∧ (E.R k).kind.live = true) → ∀ (q : PV) (x : Value), Rep w E.bare G.w0.heap.size q x → Rep w (Env.out G.w0.heap.size bs).bare G.w0.heap.size q x := by
    intro bs hbs q x h
    refine h.above (fun _ => rfl) (fun _ => rfl) rfl rfl fun b hb hL hL' => ?_
    rcases hL' with h1 | h1
    · omega
    · obtain ⟨k, hk1, hk2⟩ := hbs b h1
      exact hL ((hw.live b).2 ⟨k, hk1, hk2⟩)
  unfold out0 at hk
  cases rv with
  | im q =>
    simp only at hk
    cases hp with
    | v x => obtain ⟨rfl, hk⟩ := hk; exact ⟨[], hk, by simp, fun bs _ => ⟨[], .im (.v _), rfl⟩⟩
    | @sl _ _ fr sz len cap cells a cs hl hc hm hr hh =>
      obtain ⟨rfl, ⟨f, rfl⟩, hk⟩ := hk
      refine ⟨[], hk, by simp, fun bs hbs => ⟨[], .im ?_, rfl⟩⟩
      have e1 : E.lo 0 true = G.w0.heap.size := by simp [Env.lo, hB]
      have e2 : (Env.out G.w0.heap.size bs).bare.lo G.w0.heap.size f = G.w0.heap.size := by simp [Env.lo, Env.bare]
      refine .sl cs hl hc hm (fun i hi => ?_) (fun i hi => ?_)
      · obtain ⟨b, o, ha, hb, hL, hcell⟩ := hr i hi
        refine ⟨b, o, ha, ?_, fun hL' => ?_, hcell⟩
        · show (Env.out G.w0.heap.size bs).bare.lo G.w0.heap.size f ≤ b
          rw [e2, ← e1]; exact hb
        · rcases hL' with h1 | h1
          · rw [e1] at hb; omega
          · obtain ⟨k, hk1, hk2⟩ := hbs b h1
            exact hL ((hw.live b).2 ⟨k, hk1, hk2⟩)
      · have h0 := hh i hi
        rw [e1] at h0
        show Rep w (Env.out G.w0.heap.size bs).bare.bare ((Env.out G.w0.heap.size bs).bare.lo G.w0.heap.size f) _ _
        rw [e2]
        exact above bs hbs _ _ h0
    | own => exact hk.elim
    | ref => exact hk.elim
    | eref => exact hk.elim
    | ag => exact hk.elim
    | tup => exact hk.elim
    | clo => exact hk.elim
    | junk => exact hk.elim
  | fr e sz c =>
    simp only at hk
    cases hp with
    | v x => obtain ⟨h1, rfl, hk⟩ := hk; rw [isNil_eq h1]; exact ⟨[], hk, by simp, fun bs _ => ⟨_, .nil, rfl⟩⟩
    | @own _ _ k ver _ hv hx =>
      obtain ⟨h0, h1, hk⟩ := hk
      have hrow := hw.rows k
      unfold RowOk at hrow
      cases hkd : (E.R k).kind with
      | dead => simp only [hkd] at hk
      | box t cc => simp only [hkd] at hk
      | nil =>
        simp only [hkd] at hk hrow
        obtain ⟨rfl, hk⟩ := hk
        rw [hx h1 (by rw [hkd]; rfl), hrow.2]
        exact ⟨[], hk, by simp, fun bs _ => ⟨_, .nil, rfl⟩⟩
      | sli e' sz' fz c' =>
        cases fz with
        | true => simp only [hkd] at hk
        | false =>
          simp only [hkd] at hk hrow
          obtain ⟨rfl, rfl, rfl, hk⟩ := hk
          rw [hx h1 (by rw [hkd]; rfl)]
          refine ⟨[k], hk, fun j hj => by simp at hj; subst hj; exact ⟨h0, _, _, _, hkd⟩, fun bs hbs => ?_⟩
          rcases hrow with ⟨g1, g2, g3⟩ | ⟨b, n, cap, vs, rest, g1, g2, g3, g4, g5, g6, g7, g8, g9⟩
          · rw [g2]; subst g3
            exact ⟨_, .nil, by simp [blk, blocksOf, g1]⟩
          · rw [g3]
            have hb : G.w0.heap.size ≤ b := by
              rcases g2 with g2 | g2
              · exact g2
              · exact absurd g2.1 (by omega)
            refine ⟨_, .fr hb g4 g5 g6 g7 g8 ⟨g9.1, fun i a b => ?_⟩, by simp [blk, blocksOf, g1]⟩
            have := g9.2 i a b
            rw [hB] at this
            exact above bs hbs _ _ this
    | sl => exact hk.elim
    | ref => exact hk.elim
    | eref => exact hk.elim
    | ag => exact hk.elim
    | tup => exact hk.elim
    | clo => exact hk.elim
    | junk => exact hk.elim
  | ag l => exact hk.elim
  | tup l => exact hk.elim

theorem outL_sound {f : PV → RV → (List Nat → Prop) → Prop} (hf : Outs G E w f) : ∀ (ps : List PV) (rs : List RV) (K : List Nat → Prop) (vs : List Value), outL f ps rs K → RepL w E 0 ps vs →
    ∃ ids, K ids ∧ (∀ k ∈ ids, k < lent ∧ ∃ e sz c, (E.R k).kind = .sli e sz false c) ∧ rs.length = vs.length ∧
      ∀ bs : List Nat, (∀ b ∈ bs, ∃ k, E.rm k = some b ∧ (E.R k).kind.live = true) → ∃ lvs : List (List (Value × Option Nat)), rs.length = lvs.length ∧
        (∀ i (a : i < rs.length) (b : i < vs.length) (c : i < lvs.length), OutR w (Env.out G.w0.heap.size bs) rs[i] vs[i] lvs[i]) ∧ blk lvs.flatten = blocksOf E ids := by
  intro ps
  induction ps with
  | nil =>
    intro rs K vs hk hr
    cases rs with
    | nil =>
      have : vs = [] := List.eq_nil_of_length_eq_zero hr.1.symm
      subst this
      exact ⟨[], hk, by simp, rfl, fun bs _ => ⟨[], rfl, fun i a => absurd a (by simp), rfl⟩⟩
    | cons r rs => exact hk.elim
  | cons p ps ih =>
    intro rs K vs hk hr
    cases rs with
    | nil => exact hk.elim
    | cons r rs =>
      cases vs with
      | nil => simp [RepL] at hr
      | cons v vs =>
        obtain ⟨a, hk, ha, hb⟩ := hf p r _ v hk (hr.2 0 (by simp) (by simp))
        obtain ⟨b, hk, hc, hlen, hd⟩ := ih rs _ vs hk ⟨by simpa using hr.1, fun i x y => hr.2 (i + 1) (by simpa using x) (by simpa using y)⟩
        refine ⟨a ++ b, hk, fun k hk => ?_, by simp [hlen], fun bs hbs => ?_⟩
        · rcases List.mem_append.1 hk with h | h
          · exact ha k h
          · exact hc k h
        · obtain ⟨lv, h1, h2⟩ := hb bs hbs
          obtain ⟨lvs, h3, h4, h5⟩ := hd bs hbs
          refine ⟨lv :: lvs, by simp [h3], fun i x y z => ?_, ?_⟩
          · cases i with
            | zero => exact h1
            | succ i => exact h4 i (by simpa using x) (by simpa using y) (by simpa using z)
          · simp only [List.flatten_cons, blk, blocksOf, List.filterMap_append] at h2 h5 ⊢
            rw [h2, h5]

theorem out1_sound (hw : WOk G E w) : Outs G E w (out1 E.R) := by
  intro p rv K v hk hp
  have h0 := out0_sound hw
  unfold out1 at hk
  cases rv with
  | im q => exact h0 p _ K v hk hp
  | fr e sz c => exact h0 p _ K v hk hp
  | ag l =>
    simp only at hk
    cases hp with
    | @ag _ _ ps vs hl hh =>
      obtain ⟨ids, h1, h2, h3, h4⟩ := outL_sound h0 ps l K vs hk ⟨hl, hh⟩
      exact ⟨ids, h1, h2, fun bs hbs => let ⟨lvs, q1, q2, q3⟩ := h4 bs hbs; ⟨_, .ag h3 q1 q2, q3⟩⟩
    | _ => exact hk.elim
  | tup l =>
    simp only at hk
    cases hp with
    | @tup _ _ ps vs hl hh =>
      obtain ⟨ids, h1, h2, h3, h4⟩ := outL_sound h0 ps l K vs hk ⟨hl, hh⟩
      exact ⟨ids, h1, h2, fun bs hbs => let ⟨lvs, q1, q2, q3⟩ := h4 bs hbs; ⟨_, .tup h3 q1 q2, q3⟩⟩
    | _ => exact hk.elim

theorem out2_sound (hw : WOk G E w) : Outs G E w (out2 E.R) := by
  intro p rv K v hk hp
  have h0 := out0_sound hw
  have h1' := out1_sound hw
  unfold out2 at hk
  cases rv with
  | im q => exact h0 p _ K v hk hp
  | fr e sz c => exact h0 p _ K v hk hp
  | ag l =>
    simp only at hk
    cases hp with
    | @ag _ _ ps vs hl hh =>
      obtain ⟨ids, h1, h2, h3, h4⟩ := outL_sound h1' ps l K vs hk ⟨hl, hh⟩
      exact ⟨ids, h1, h2, fun bs hbs => let ⟨lvs, q1, q2, q3⟩ := h4 bs hbs; ⟨_, .ag h3 q1 q2, q3⟩⟩
    | _ => exact hk.elim
  | tup l =>
    simp only at hk
    cases hp with
    | @tup _ _ ps vs hl hh =>
      obtain ⟨ids, h1, h2, h3, h4⟩ := outL_sound h1' ps l K vs hk ⟨hl, hh⟩
      exact ⟨ids, h1, h2, fun bs hbs => let ⟨lvs, q1, q2, q3⟩ := h4 bs hbs; ⟨_, .tup h3 q1 q2, q3⟩⟩
    | _ => exact hk.elim

/-- The rows that go with a result have blocks that part. -/
theorem blocks_nodup (hw : WOk G E w) : ∀ (ids : List Nat), ids.Nodup → (∀ k ∈ ids, k < lent ∧ ∃ e sz c, (E.R k).kind = .sli e sz false c) → (blocksOf E ids).Nodup := by
  intro ids
  induction ids with
  | nil => intro _ _; exact List.nodup_nil
  | cons k ks ih =>
    intro hn hk
    have hn' := List.nodup_cons.1 hn
    have ih' := ih hn'.2 fun j hj => hk j (by simp [hj])
    unfold blocksOf at *
    cases hm : E.rm k with
    | none => rw [List.filterMap_cons_none hm]; exact ih'
    | some b =>
      rw [List.filterMap_cons_some hm]
      refine List.nodup_cons.2 ⟨fun hb => ?_, ih'⟩
      obtain ⟨j, hj, hjb⟩ := List.mem_filterMap.1 hb
      obtain ⟨_, e, sz, c, h1⟩ := hk k (by simp)
      obtain ⟨_, e', sz', c', h2⟩ := hk j (by simp [hj])
      have := hw.inj k j b (by rw [h1]; rfl) (by rw [h2]; rfl) hm hjb
      subst this
      exact hn'.1 hj

end
end Go.Abs
