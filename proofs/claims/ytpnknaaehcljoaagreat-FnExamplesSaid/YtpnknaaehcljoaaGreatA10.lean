/- DERIVED by an AI agent. What a region that draws its order asks. No program in sight. -/
import Derived.Test.YtpnknaaehcljoaaGreatA9
namespace Go.Abs
set_option linter.unusedSimpArgs false
def pid1 : PV → List Nat | .own k _ => [k % 1000] | .ref k _ _ => [k % 1000] | _ => []
def pids : PV → List Nat | .own k _ => [k % 1000] | .ref k _ _ => [k % 1000] | .ag c => c.flatMap pid1 | _ => []
def near (l : List Nat) (k : Nat) : Prop := ∃ a ∈ l, a % 1000 = k % 1000
theorem near_one (k : Nat) : near [k % 1000] k := ⟨_, List.mem_singleton.2 rfl, Nat.mod_mod _ _⟩
theorem near_mem {l : List Nat} {k : Nat} (h : k ∈ l) : near l k := ⟨_, h, rfl⟩
theorem near_left {l m : List Nat} {k : Nat} (h : near l k) : near (l ++ m) k := by obtain ⟨a, ha, e⟩ := h; exact ⟨a, List.mem_append.2 (.inl ha), e⟩
theorem near_right {l m : List Nat} {k : Nat} (h : near m k) : near (l ++ m) k := by obtain ⟨a, ha, e⟩ := h; exact ⟨a, List.mem_append.2 (.inr ha), e⟩
theorem near_cons {a : Nat} {l : List Nat} {k : Nat} (h : near l k) : near (a :: l) k := by obtain ⟨b, hb, e⟩ := h; exact ⟨b, List.mem_cons_of_mem _ hb, e⟩
theorem near_head {l : List Nat} {k : Nat} : near (k % 1000 :: l) k := ⟨_, List.mem_cons_self, Nat.mod_mod _ _⟩
theorem near_sub {l m : List Nat} {k : Nat} (h : near l k) (hs : ∀ a ∈ l, a ∈ m) : near m k := by obtain ⟨a, ha, e⟩ := h; exact ⟨a, hs a ha, e⟩
theorem near_flat {α : Type} {f : α → List Nat} {l : List α} {x : α} {k : Nat} (hx : x ∈ l) (h : near (f x) k) : near (l.flatMap f) k := by obtain ⟨a, ha, e⟩ := h; exact ⟨a, List.mem_flatMap.2 ⟨x, hx, ha⟩, e⟩
theorem near_looks {e : Ent} {k : Nat} (h : near e.rd k) : e.looks k = true := by
  obtain ⟨a, ha, h⟩ := h
  unfold Ent.looks
  simp only [List.any_eq_true, beq_iff_eq]
  exact ⟨a, ha, h⟩
theorem near_has [Held] {l : List Nat} {k : Nat} : (Tc.ids l).has k = true ↔ near l k := has_ids
theorem near_has_not [Held] {l : List Nat} {k : Nat} (h : (Tc.ids l).has k = false) : ¬ near l k := fun hn => by rw [near_has.2 hn] at h; cases h
def same (rw rw' : Nat → Row) (p : PV) : Prop := ∀ k, near (pids p) k → rw' k = rw k
section
variable {P : Program} {T : Tab} {rw rw' : Nat → Row} {p : PV}
theorem ptrK_same [Held] (hs : same rw rw' p) (K : Md → List PV → Nat → Prop) : ptrK rw' p K = ptrK rw p K := by
  cases p <;> first | rfl | (simp only [ptrK]; rw [hs _ (near_one _)])
theorem slK_same [Held] (hs : same rw rw' p) (K : Bool → Nat → List PV → Prop) : slK rw' p K = slK rw p K := by
  cases p <;> first | rfl | (simp only [slK]; rw [hs _ (near_one _)])
theorem slFzK_same [Held] (hs : same rw rw' p) (K : Bool → Nat → List PV → Prop) : slFzK rw' p K = slFzK rw p K := by
  cases p <;> first | rfl | (simp only [slFzK]; rw [hs _ (near_one _)])
theorem sureK_same [Held] (hs : same rw rw' p) (A : Prop) : sureK rw' p A = sureK rw p A := by
  cases p <;> first | rfl | (simp only [sureK]; rw [hs _ (near_one _)])
theorem cellsK_same [Held] (hs : same rw rw' p) (K : List PV → Prop) : cellsK rw' p K = cellsK rw p K := by
  cases p <;> first | rfl | (simp only [cellsK]; rw [hs _ (near_one _)])
theorem indexAddrK_same [Held] {i : PV} {t : TypeId} (hs : same rw rw' p) (K : PV → Prop) : indexAddrK T rw' t p i K = indexAddrK T rw t p i K := by
  unfold indexAddrK
  simp only [sureK_same hs]
  cases p <;> first | rfl | (simp only; rw [hs _ (near_one _)])
theorem lenQ_same [Held] (hs : same rw rw' p) (K : Nat → Nat → Prop) : lenQ rw' p K = lenQ rw p K := by
  cases p <;> first | rfl | (simp only [lenQ]; rw [hs _ (near_one _)])
theorem lenK_same [Held] {t : TypeId} (hs : same rw rw' p) (K : PV → Prop) : lenK T rw' t p K = lenK T rw t p K := by
  unfold lenK
  simp only [lenQ_same hs]
theorem sliceK_same [Held] {ev : Operand → PV} {t : TypeId} {lo hi mx : Option Operand} (hs : same rw rw' p) (K : PV → Prop) : sliceK T rw' ev t p lo hi mx K = sliceK T rw ev t p lo hi mx K := by
  unfold sliceK
  simp only [slFzK_same hs]
theorem convK_same [Held] {a b : TypeId} (hs : same rw rw' p) (K : PV → Prop) : convK T rw' a b p K = convK T rw a b p K := by
  unfold convK
  simp only [slK_same hs]
theorem valK_same [Held] {ev : Operand → PV} {op : Op} (h : ∀ x ∈ op.operands, same rw rw' (ev x)) (K : PV → Prop) : valK T rw' ev op K = valK T rw ev op K := by
  unfold valK
  cases op <;> try rfl
  case convert a b x => exact convK_same (h x (by simp [Op.operands])) K
  case load t x => exact ptrK_same (h x (by simp [Op.operands])) _
  case fieldAddr t x f => simp only [sureK_same (h x (by simp [Op.operands]))]
  case indexAddr t x i => exact indexAddrK_same (h x (by simp [Op.operands])) K
  case slice t x lo hi mx => exact sliceK_same (h x (by simp [Op.operands])) K
  case nilCheck x => exact sureK_same (h x (by simp [Op.operands])) _
  case call c =>
    dsimp only
    split
    · rename_i x t; exact lenK_same (h x (by simp [Op.operands, Call.operands])) K
    · rfl
    · rfl
    · rfl
theorem fillK_same [Held] {fs : List (Nat × TypeId)} : ∀ (pp : List (Nat × PV)) (c : List PV) (K : List PV → Prop), (∀ x ∈ pp, same rw rw' x.2) → fillK T rw' fs pp c K = fillK T rw fs pp c K := by
  intro pp
  induction pp with
  | nil => intro c K _; rfl
  | cons x pp ih =>
    intro c K h
    obtain ⟨i, p⟩ := x
    have h0 : same rw rw' p := h (i, p) (by simp)
    have ih' : ∀ c K, fillK T rw' fs pp c K = fillK T rw fs pp c K := fun c K => ih c K fun y hy => h y (by simp [hy])
    simp only [fillK, ih', cellsK_same h0]
theorem fillK_det {fs : List (Nat × TypeId)} : ∀ (pp : List (Nat × PV)) (c : List PV) (K : List PV → Prop), fillK T rw fs pp c K → ∃ c', K c' ∧ fillK T rw fs pp c (· = c') := by
  intro pp
  induction pp with
  | nil => intro c K h; exact ⟨c, h, rfl⟩
  | cons x pp ih =>
    intro c K h
    obtain ⟨i, p⟩ := x
    unfold fillK at h ⊢
    split at h
    · rename_i off ft hfi
      unfold cellsK at h ⊢
      split at h <;> first
        | exact h.elim
        | (obtain ⟨a1, a2, h⟩ := h; obtain ⟨c', h1, h2⟩ := ih _ _ h; exact ⟨c', h1, a1, a2, h2⟩)
        | (obtain ⟨q, a1, a2, h⟩ := h; obtain ⟨c', h1, h2⟩ := ih _ _ h; exact ⟨c', h1, q, a1, a2, h2⟩)
        | (obtain ⟨q, q2, a1, a2, h⟩ := h; obtain ⟨c', h1, h2⟩ := ih _ _ h; exact ⟨c', h1, q, q2, a1, a2, h2⟩)
    · exact h.elim
end
def readK (T : Tab) (rw : Nat → Row) (ev : Operand → PV) (op : Op) (K : PV → Prop) : Prop :=
  match op with
  | .build t parts => buildVK T rw ev t parts K
  | op => valK T rw ev op K
def lidsT (k : Nat) (c : List PV) : List Nat := c.flatMap fun q => match q with | .own j _ => if j % 1000 = k % 1000 then [] else [j % 1000] | _ => []
def lids (rw : Nat → Row) : Nat → PV → List Nat
  | 0, _ => []
  | n + 1, p => match p with
    | .own k _ => k % 1000 :: (match (rw k).kind with | .tab _ c => lidsT k c | _ => [])
    | .ref k _ _ => k % 1000 :: (match (rw k).kind with | .box _ c => c.flatMap (lids rw n) | _ => [])
    | .ag c => c.flatMap (lids rw n)
    | .clo _ c => c.flatMap (lids rw n)
    | _ => []
theorem lend_same [Held] {rw rw' : Nat → Row} : ∀ (n : Nat) (p : PV), (∀ k, near (lids rw n p) k → rw' k = rw k) → lend rw' n p = lend rw n p := by
  intro n
  induction n with
  | zero => intro p _; rfl
  | succ n ih =>
    intro p h
    have lst : ∀ c : List PV, (∀ k, near (c.flatMap (lids rw n)) k → rw' k = rw k) → c.map (lend rw' n) = c.map (lend rw n) := fun c hc =>
      List.map_congr_left fun q hq => ih q fun k hk => hc k (near_flat hq hk)
    cases p with
    | own k ver =>
      have h0 := h k near_head
      simp only [lend, h0]
      split
      · cases hk : (rw k).kind with
        | tab e c =>
          simp only
          congr 1
          refine List.map_congr_left fun q hq => ?_
          cases q with
          | own j v =>
            have hj : rw' j = rw j := h j (by
              simp only [lids, hk]
              by_cases he : j % 1000 = k % 1000
              · exact ⟨_, List.mem_cons_self, by rw [Nat.mod_mod]; exact he.symm⟩
              · exact near_cons (near_flat hq (by simp only [he, if_false]; exact near_one j)))
            simp only [lendC, hj]
          | _ => rfl
        | _ => rfl
      · rfl
    | ref k ver off =>
      have h0 := h k near_head
      simp only [lend, h0]
      split
      · cases hk : (rw k).kind with
        | box t c => simp only; rw [lst c fun j hj => h j (by simp only [lids, hk]; exact near_cons hj)]
        | _ => rfl
      · rfl
    | ag c => simp only [lend]; rw [lst c fun j hj => h j hj]
    | clo f c => simp only [lend]; rw [lst c fun j hj => h j hj]
    | _ => rfl
def askTd [Held] (P : Program) (s : St) (g : FuncId) (raw : List PV) (d : Nat) (K : List Nat → Nat → St → Prop) : Prop :=
  (∃ (k v e e2 : Nat) (p : List Nat) (rows rows' : List (List PV)) (args : List PV) (r : RV),
    AT P g args e e2 rows rows' (.rv r) ∧ GiveL [(k, v)] raw args ∧ TabIs s.rw k v e e2 p rows ∧ p.Nodup ∧ d % 1000 ≠ k % 1000 ∧ K [] k (adoptSt (s.killed k p) d r)) ∨
  (∃ (j vj e : Nat) (x head out : List PV) (ok fr : Bool),
    AF P g x head e out ok ∧ raw = [.sl fr 1 x, .own j vj] ∧ s.rw j = ⟨vj, .sli e 1 false head⟩ ∧ plain head ∧ d % 1000 ≠ j % 1000 ∧ j < lent ∧ K [] j (adoptSt (s.killed j []) d (rvF e out ok))) ∨
  (∃ (rd : List Nat) (k : Nat) (x : RV) (r : Row), (∀ s' : St, s'.rw k = s.rw k → (∀ a ∈ rd, s'.rw a = s.rw a) → ∀ K' : St → Prop, K' (adoptSt (s'.row k r) d x) → askG P s' g raw (some d) K') ∧ d % 1000 ≠ k % 1000 ∧ K rd k (adoptSt (s.row k r) d x))
def tdK [Held] (P : Program) (s : St) (f : Operand) (c : Call) (d : Nat) (K : Ent → St → Prop) : Prop :=
  match s.ev f with | .clo g caps => askTd P s g (c.args.toList.map s.ev ++ caps) d (fun rd k s1 => K ⟨rd, .ids [d, k]⟩ s1) | _ => False
def nK [Held] (P : Program) (s : St) (o : Oper) (K : Ent → St → Prop) : Prop :=
  match o.op with
  | .call c => (match c.callee with
      | .value f => (match o.dst with
          | some d => (callK P s.rw s.ev f c.args fun rv => K ⟨(c.args.toList.map s.ev).flatMap (lids s.rw deep) ++ lids s.rw (deep + 1) (s.ev f), .res d⟩ (adoptSt s d rv)) ∨ tdK P s f c d K
          | none => callK P s.rw s.ev f c.args fun _ => K ⟨(c.args.toList.map s.ev).flatMap (lids s.rw deep) ++ lids s.rw (deep + 1) (s.ev f), .ids []⟩ s)
      | _ => False)
  | _ => False
def rdIds (s : St) (o : Oper) : List Nat := match rowFree o with | true => [] | false => (o.op.operands.toList.map s.ev).flatMap pids
def cutK (T : Tab) (s : St) (dst : Option Nat) (t : TypeId) (r : Row) (k ver : Nat) (py : PV) (K : Ent → St → Prop) : Prop :=
  ∃ (d e : Nat) (c : List PV) (kd : IntKind) (m : Int), dst = some d ∧ r = ⟨ver, .sli e 1 false c⟩ ∧ 0 < (T t).size ∧ (T t).k = .sli e ∧ 0 < (T e).size ∧ (T e).size = 1 ∧ py = .v (.int kd m) ∧ 0 ≤ m ∧ m ≤ (c.length : Int) ∧
    K ⟨[], .ids [k]⟩ ((s.row k ⟨ver + 1, .sli e 1 false (c.take m.toNat)⟩).put (some d) (.own k (ver + 1)))
def cutR (T : Tab) (s : St) (o : Oper) (t : TypeId) (px py : PV) (K : Ent → St → Prop) : Prop :=
  match px with
  | .own k ver => (match (s.rw k).kind with
      | .sli _ _ false _ => cutK T s o.dst t (s.rw k) k ver py K
      | _ => readK T s.rw s.ev o.op fun p => K ⟨rdIds s o, .ids []⟩ (s.put o.dst p))
  | _ => readK T s.rw s.ev o.op fun p => K ⟨rdIds s o, .ids []⟩ (s.put o.dst p)
def dK [Held] (P : Program) (T : Tab) (s : St) (o : Oper) (K : Ent → St → Prop) : Prop :=
  match o.op with
  | .store _ ad x => opK P T s o (K ⟨[], .ids (pids (s.ev ad) ++ pids (s.ev x))⟩)
  | .alloc _ => opK P T s o (K ⟨[], .ids o.dst.toList⟩)
  | .box _ x => opK P T s o (K ⟨pids (s.ev x), .ids o.dst.toList⟩)
  | .makeSlice _ _ _ => opK P T s o (K ⟨[], .ids o.dst.toList⟩)
  | .buildSlice _ _ parts => opK P T s o (K ⟨[], .ids (o.dst.toList ++ (parts.toList.map fun x => s.ev x.2).flatMap pids)⟩)
  | .slice t x none (some y) none => cutR T s o t (s.ev x) (s.ev y) K
  | .call c => (match c.callee with
      | .builtin .append => (match c.args with | ⟨[x, y]⟩ => opK P T s o (K ⟨pids (s.ev y), .ids (o.dst.toList ++ pids (s.ev x))⟩) | _ => False)
      | .value _ => nK P s o K
      | _ => readK T s.rw s.ev o.op fun p => K ⟨rdIds s o, .ids []⟩ (s.put o.dst p))
  | _ => readK T s.rw s.ev o.op fun p => K ⟨rdIds s o, .ids []⟩ (s.put o.dst p)
def drawK [Held] (P : Program) (T : Tab) (ops : Array Oper) : List Ent → List Oper → St → (St → Prop) → Prop
  | acc, [], s, K => lines ops acc.reverse = true ∧ K s
  | acc, o :: os, s, K => guardK ops s o
      (fun s1 => dK P T s1 o fun e s2 => drawK P T ops (e :: acc) os s2 K)
      (fun s2 => drawK P T ops (⟨[], .ids []⟩ :: acc) os s2 K)
section
variable {P : Program} {T : Tab} {G : Ghost} {ops : Array Oper}
theorem valK_det [Held] {rw : Nat → Row} {ev : Operand → PV} {op : Op} {K : PV → Prop} (h : valK T rw ev op K) : ∃ p, K p ∧ ∀ K' : PV → Prop, K' p → valK T rw ev op K' := by
  unfold valK at h ⊢
  split at h
  · exact ⟨_, h, fun _ h => h⟩
  · exact ⟨_, h, fun _ h => h⟩
  · split at h
    · rename_i t _
      cases t with
      | true => exact ⟨_, h.1 rfl, fun _ h' => ⟨fun _ => h', fun h => by cases h⟩⟩
      | false => exact ⟨_, h.2 rfl, fun _ h' => ⟨(fun h => by cases h), fun _ => h'⟩⟩
    · exact h.elim
  · exact binK_det h
  · exact unK_det h
  · exact convK_det h
  · obtain ⟨m, c, off, h, hd⟩ := ptrK_det h
    obtain ⟨p, hp, hl⟩ := ldK_det h
    exact ⟨p, hp, fun K' hk => hd _ (hl _ hk)⟩
  · obtain ⟨o', ft, h, hd⟩ := fieldK_det h
    obtain ⟨hptr, h⟩ := h
    obtain ⟨hk, hs⟩ := sureK_det h
    exact ⟨_, hk, fun K' hk => hd _ ⟨hptr, hs _ hk⟩⟩
  · rename_i t x f
    obtain ⟨o', ft, h, hd⟩ := fieldK_det h
    cases he : ev x with
    | ag c =>
      rw [he] at h
      obtain ⟨p, hp, hl⟩ := ldK_det h
      exact ⟨p, hp, fun K' hk => hd _ (hl _ hk)⟩
    | _ => rw [he] at h; exact h.elim
  · exact indexAddrK_det h
  · obtain ⟨hs, h⟩ := h
    split at h
    · exact ⟨_, h.2.2, fun _ hk => ⟨hs, h.1, h.2.1, hk⟩⟩
    · obtain ⟨p, hp, hl⟩ := ldK_det h.2.2
      exact ⟨p, hp, fun _ hk => ⟨hs, h.1, h.2.1, hl _ hk⟩⟩
    · exact h.elim
  · exact sliceK_det h
  · split at h
    · exact ⟨_, h.2, fun _ hk => ⟨h.1, hk⟩⟩
    · exact h.elim
  · split at h
    · exact ⟨_, h.2, fun _ hk => ⟨h.1, hk⟩⟩
    · exact h.elim
  · obtain ⟨hk, hs⟩ := sureK_det h
    exact ⟨_, hk, fun K' hk => hs _ hk⟩
  · split at h
    · exact lenK_det h
    · exact minmaxK_det h
    · exact minmaxK_det h
    · exact h.elim
  · exact h.elim
theorem readK_det [Held] {rw : Nat → Row} {ev : Operand → PV} {op : Op} {K : PV → Prop} (h : readK T rw ev op K) : ∃ p, K p ∧ readK T rw ev op (· = p) := by
  unfold readK at h ⊢
  split at h
  · unfold buildVK at h ⊢
    obtain ⟨h1, h⟩ := h
    split at h
    · rename_i fs hfs
      obtain ⟨h2, h⟩ := h
      obtain ⟨c', h3, h4⟩ := fillK_det _ _ _ h
      refine ⟨_, h3, h1, h2, ?_⟩
      refine (?_ : fillK T rw fs _ _ (fun c => PV.ag c = PV.ag c'))
      have e : (fun c => PV.ag c = PV.ag c') = (· = c') := by funext c; simp
      rw [e]; exact h4
    · exact h.elim
  · obtain ⟨p, hp, hd⟩ := valK_det h
    exact ⟨p, hp, hd _ rfl⟩
theorem readK_same [Held] {rw rw' : Nat → Row} {ev : Operand → PV} {op : Op} (h : ∀ x ∈ op.operands, same rw rw' (ev x)) (K : PV → Prop) : readK T rw' ev op K = readK T rw ev op K := by
  unfold readK
  split
  · rename_i t parts
    unfold buildVK
    split
    · rename_i fs hfs
      rw [fillK_same _ _ _ fun x hx => by
        obtain ⟨y, hy, rfl⟩ := List.mem_map.1 hx
        exact h y.2 (by simp only [Op.operands, List.mem_toArray, List.mem_map]; exact ⟨y, hy, rfl⟩)]
    · rfl
  · exact valK_same h K
theorem readK_free {rw rw' : Nat → Row} {ev : Operand → PV} {o : Oper} {K : PV → Prop} (hf : rowFree o = true) (h : readK T rw ev o.op K) : readK T rw' ev o.op K := by
  unfold rowFree at hf
  split at hf <;> first
    | (rename_i ho; rw [ho] at h ⊢; exact h)
    | cases hf
theorem read_sound [Held] (hT : T.Ok P) {s : St} {K : PV → Prop} {o : Oper} (hk : readK T s.rw s.ev o.op K) : ∃ p, K p ∧ Yields P G s o p := by
  unfold readK at hk
  split at hk
  · rename_i t parts ho; exact buildV_sound hT ho hk
  · exact val_sound hT hk
theorem map_ev {s s' : St} {l : List (Nat × Operand)} (h : ∀ x ∈ l, s'.ev x.2 = s.ev x.2) : (l.map fun x => s'.ev x.2) = l.map fun x => s.ev x.2 := List.map_congr_left h
def upR (fz : List Nat) (d : Nat) (r : Row) (rw : Nat → Row) : Nat → Row := fun i => if i = d then r else frzF rw fz i
theorem newSt_up [Held] (s : St) (d : Nat) (kd : RK) (p : Nat → PV) : newSt s d kd p = (St.mk s.sl (upR [] d ⟨(s.rw d).ver + 1, kd⟩ s.rw)).put (some d) (p ((s.rw d).ver + 1)) := by
  unfold newSt St.row upR; rw [frzF_nil]
theorem appSt_up [Held] (s : St) (d k : Nat) (kd : RK) : appSt s d k kd = (St.mk s.sl (upR [] k ⟨(s.rw k).ver + 1, kd⟩ s.rw)).put (some d) (.own k ((s.rw k).ver + 1)) := by
  unfold appSt St.row upR; rw [frzF_nil]
theorem row_up [Held] (s : St) (k : Nat) (r : Row) : s.row k r = St.mk s.sl (upR [] k r s.rw) := by
  unfold St.row upR; rw [frzF_nil]
theorem frz_up (s : St) (fz : List Nat) (k : Nat) (r : Row) : (s.freeze fz).row k r = St.mk s.sl (upR fz k r s.rw) := rfl
theorem pureK_loc [Held] {rw : Nat → Row} {p : PV} {K : List PV → List Nat → Prop} (hk : pureK rw p K) : ∃ c f, K c f ∧ (∀ j ∈ f, near (pids p) j) ∧ ∀ rw', same rw rw' p → pureK rw' p (fun a b => a = c ∧ b = f) := by
  unfold pureK at hk
  split at hk
  · exact ⟨_, _, hk.2, by simp, fun rw' _ => ⟨hk.1, rfl, rfl⟩⟩
  · exact ⟨_, _, hk.2, by simp, fun rw' _ => ⟨hk.1, rfl, rfl⟩⟩
  · rename_i k ver
    obtain ⟨h1, h2, hk⟩ := hk
    split at hk
    · rename_i hkd
      refine ⟨_, _, hk, by simp, fun rw' hs => ?_⟩
      have := hs k (near_one _)
      unfold pureK
      simp only [this, hkd]
      exact ⟨h1, h2, by simp⟩
    · rename_i hkd
      refine ⟨_, _, hk, fun j hj => by rw [List.mem_singleton.1 hj]; exact near_one _, fun rw' hs => ?_⟩
      have := hs k (near_one _)
      unfold pureK
      simp only [this, hkd]
      exact ⟨h1, h2, by simp⟩
    · exact hk.elim
  · exact ⟨_, _, hk.2, by simp, fun rw' _ => ⟨hk.1, rfl, rfl⟩⟩
  · exact hk.elim
theorem pureL_loc [Held] {rw : Nat → Row} {es : Nat} : ∀ {ps : List PV} {K : List PV → List Nat → Prop}, pureL rw es ps K → ∃ c f, K c f ∧ (∀ j ∈ f, near (ps.flatMap pids) j) ∧ ∀ rw', (∀ p ∈ ps, same rw rw' p) → ∀ K' : List PV → List Nat → Prop, K' c f → pureL rw' es ps K' := by
  intro ps
  induction ps with
  | nil => intro K h; exact ⟨_, _, h, by simp, fun _ _ K' h => h⟩
  | cons p ps ih =>
    intro K h
    obtain ⟨c, f, ⟨hl, h⟩, hf, hp⟩ := pureK_loc h
    obtain ⟨cs, fs, h, hfs, hs⟩ := ih h
    refine ⟨_, _, h, fun j hj => ?_, fun rw' hsame K' hK => ?_⟩
    · rw [List.flatMap_cons]
      rcases List.mem_append.1 hj with h | h
      · exact near_left (hf j h)
      · exact near_right (hfs j h)
    · have h1 := hp rw' (hsame p (by simp))
      have back : ∀ {K2 : List PV → List Nat → Prop}, K2 c f → pureK rw' p K2 := fun {K2} hk2 => by
        unfold pureK at h1 ⊢
        split at h1
        · obtain ⟨q1, rfl, rfl⟩ := h1; exact ⟨q1, hk2⟩
        · obtain ⟨q1, rfl, rfl⟩ := h1; exact ⟨q1, hk2⟩
        · obtain ⟨q1, q2, h1⟩ := h1
          refine ⟨q1, q2, ?_⟩
          split at h1
          · obtain ⟨rfl, rfl⟩ := h1; exact hk2
          · obtain ⟨rfl, rfl⟩ := h1; exact hk2
          · exact h1.elim
        · obtain ⟨q1, rfl, rfl⟩ := h1; exact ⟨q1, hk2⟩
        · exact h1.elim
      exact back ⟨hl, hs rw' (fun q hq => hsame q (by simp [hq])) (fun cs' fs' => K' (c ++ cs') (f ++ fs')) hK⟩
theorem cellsK_det {rw : Nat → Row} {p : PV} {K : List PV → Prop} (hk : cellsK rw p K) : ∃ c, K c ∧ (∀ q ∈ c, ∀ j ∈ pid1 q, j ∈ pids p) ∧ ∀ K' : List PV → Prop, K' c → cellsK rw p K' := by
  have one : ∀ q : PV, ∀ q' ∈ [q], ∀ j ∈ pid1 q', j ∈ pids q := fun q q' hq j hj => by
    rw [List.mem_singleton.1 hq] at hj
    cases q <;> simp [pid1] at hj <;> simp [pids, hj]
  unfold cellsK at hk ⊢
  split at hk
  · exact ⟨_, hk, fun q hq j hj => List.mem_flatMap.2 ⟨q, hq, hj⟩, fun _ h => h⟩
  · exact ⟨_, hk.2, one _, fun _ h => ⟨hk.1, h⟩⟩
  · exact ⟨_, hk, one _, fun _ h => h⟩
  · exact ⟨_, hk, one _, fun _ h => h⟩
  · exact ⟨_, hk, one _, fun _ h => h⟩
  · exact ⟨_, hk.2.2, one _, fun _ h => ⟨hk.1, hk.2.1, h⟩⟩
  · exact ⟨_, hk.2.2, one _, fun _ h => ⟨hk.1, hk.2.1, h⟩⟩
  · exact hk.elim
theorem oneP_same [Held] {rw rw' : Nat → Row} {p : PV} (hs : ∀ j, near (pid1 p) j → rw' j = rw j) (h : oneP rw p) : oneP rw' p := by
  cases p <;> first | exact h | (simp only [oneP] at h ⊢; rw [hs _ (near_one _)]; exact h)
def LocalK [Held] (P : Program) (_T : Tab) (G : Ghost) (s : St) (o : Oper) (K : Ent → St → Prop) : Prop :=
  ∃ x : Stp, K x.e (s.step o x) ∧ (∀ k, x.e.tc.has k = false → x.rows k = s.rw k) ∧
    ∀ s' : St, (∀ k, x.e.looks k = true ∨ x.e.tc.has k = true → s'.rw k = s.rw k) → (∀ y ∈ o.op.operands, s'.ev y = s.ev y) → Effects P G s' o (s'.stepIn o x)
theorem mk_local [Held] (hT : T.Ok P) {s : St} {o : Oper} {K : Ent → St → Prop} (hd : ∀ d, o.dst = some d → d < G.n) {val : PV} {fz : List Nat} {d : Nat} {r : Row} {rd l : List Nat} (hdl : near l d) (hfl : ∀ j ∈ fz, near l j)
    (h1 : K ⟨rd, .ids l⟩ ((St.mk s.sl (upR fz d r s.rw)).put o.dst val))
    (h2 : ∀ s' : St, (∀ k, near rd k → s'.rw k = s.rw k) → (∀ k, near l k → s'.rw k = s.rw k) → (∀ y ∈ o.op.operands, s'.ev y = s.ev y) → opK P T s' o (· = (St.mk s'.sl (upR fz d r s'.rw)).put o.dst val)) : LocalK P T G s o K := by
  refine ⟨⟨val, upR fz d r s.rw, ⟨rd, .ids l⟩⟩, h1, fun k hk => ?_, fun s' hr hev => ?_⟩
  · have hk : ¬ near l k := near_has_not hk
    show upR fz d r s.rw k = s.rw k
    unfold upR frzF
    rw [if_neg (fun e => hk (by rw [e]; exact hdl)), if_neg (fun e => hk (hfl k e))]
  · have e : s'.stepIn o ⟨val, upR fz d r s.rw, ⟨rd, .ids l⟩⟩ = (St.mk s'.sl (upR fz d r s'.rw)).put o.dst val := by
      unfold St.stepIn
      congr 2
      funext k
      by_cases hk : (Tc.ids l).has k = true
      · rw [if_pos hk]
        have := hr k (.inr hk)
        show upR fz d r s.rw k = upR fz d r s'.rw k
        unfold upR frzF
        rw [this]
      · rw [if_neg hk]
        have hk : ¬ near l k := fun h => hk (near_has.2 h)
        unfold upR frzF
        rw [if_neg (fun e => hk (by rw [e]; exact hdl)), if_neg (fun e => hk (hfl k e))]
    rw [e]
    obtain ⟨s2, rfl, he⟩ := op_sound (G := G) hT hd (h2 s' (fun k hk => hr k (.inl (near_looks hk))) (fun k hk => hr k (.inr (near_has.2 hk))) hev)
    exact he
theorem mk_localE [Held] {s : St} {o : Oper} {K : Ent → St → Prop} {val : PV} {fz : List Nat} {d : Nat} {r : Row} {rd l : List Nat} (hdl : near l d) (hfl : ∀ j ∈ fz, near l j)
    (h1 : K ⟨rd, .ids l⟩ ((St.mk s.sl (upR fz d r s.rw)).put o.dst val))
    (h2 : ∀ s' : St, (∀ k, near rd k → s'.rw k = s.rw k) → (∀ k, near l k → s'.rw k = s.rw k) → (∀ y ∈ o.op.operands, s'.ev y = s.ev y) → Effects P G s' o ((St.mk s'.sl (upR fz d r s'.rw)).put o.dst val)) : LocalK P T G s o K := by
  refine ⟨⟨val, upR fz d r s.rw, ⟨rd, .ids l⟩⟩, h1, fun k hk => ?_, fun s' hr hev => ?_⟩
  · have hk : ¬ near l k := near_has_not hk
    show upR fz d r s.rw k = s.rw k
    unfold upR frzF
    rw [if_neg (fun e => hk (by rw [e]; exact hdl)), if_neg (fun e => hk (hfl k e))]
  · have e : s'.stepIn o ⟨val, upR fz d r s.rw, ⟨rd, .ids l⟩⟩ = (St.mk s'.sl (upR fz d r s'.rw)).put o.dst val := by
      unfold St.stepIn
      congr 2
      funext k
      by_cases hk : (Tc.ids l).has k = true
      · rw [if_pos hk]
        have := hr k (.inr hk)
        show upR fz d r s.rw k = upR fz d r s'.rw k
        unfold upR frzF
        rw [this]
      · rw [if_neg hk]
        have hk : ¬ near l k := fun h => hk (near_has.2 h)
        unfold upR frzF
        rw [if_neg (fun e => hk (by rw [e]; exact hdl)), if_neg (fun e => hk (hfl k e))]
    rw [e]
    exact h2 s' (fun k hk => hr k (.inl (near_looks hk))) (fun k hk => hr k (.inr (near_has.2 hk))) hev
theorem store_local [Held] (hT : T.Ok P) {s : St} {o : Oper} {K : Ent → St → Prop} {t : TypeId} {ad x : Operand} (ho : o.op = .store t ad x) (hd : ∀ d, o.dst = some d → d < G.n)
    (hk : opK P T s o (K ⟨[], .ids (pids (s.ev ad) ++ pids (s.ev x))⟩)) : LocalK P T G s o K := by
  simp only [opK, ho] at hk
  obtain ⟨hdst, ht, hk⟩ := hk
  have ops' : ∀ s' : St, (∀ y ∈ o.op.operands, s'.ev y = s.ev y) → s'.ev ad = s.ev ad ∧ s'.ev x = s.ev x := fun s' hev => ⟨hev _ (by simp [ho, Op.operands]), hev _ (by simp [ho, Op.operands])⟩
  split at hk
  · rename_i k ver off hev
    obtain ⟨hver, hk⟩ := hk
    have hin : near (pids (s.ev ad) ++ pids (s.ev x)) k := by rw [hev]; exact near_left (near_one _)
    have hput : ∀ (s' : St) (p : PV), s'.put o.dst p = s' := fun s' p => by rw [hdst]; rfl
    split at hk
    · rename_i bt c hkind
      obtain ⟨new, ⟨h1, h2, h3, hk⟩, hin2, hc⟩ := cellsK_det hk
      refine mk_local hT hd (rd := []) (val := .junk) (fz := []) (d := k) (r := ⟨ver, .box bt (spl c off new)⟩) hin (by simp) (by rw [hput, ← row_up]; exact hk) fun s' _ hl hev' => ?_
      obtain ⟨e1, e2⟩ := ops' s' hev'
      rw [hput, ← row_up]
      simp only [opK, ho]
      refine ⟨hdst, ht, ?_⟩
      rw [e1, hev, e2]
      have hk' := hl k hin
      simp only [hk']
      refine ⟨hver, ?_⟩
      simp only [hkind]
      rw [cellsK_same (rw := s.rw) (fun j hj => hl j (near_right hj))]
      exact hc _ ⟨h1, h2, fun p hp => oneP_same (fun j hj => hl j (near_right (near_sub hj (hin2 p hp)))) (h3 p hp), rfl⟩
    · rename_i e sz c hkind
      obtain ⟨new, fz, ⟨h1, h2, h3, hk⟩, hf, hc⟩ := pureK_loc hk
      refine mk_local hT hd (rd := []) (val := .junk) (fz := fz) (d := k) (r := ⟨ver, .sli e sz false (spl c off new)⟩) hin (fun j hj => near_right (hf j hj)) (by rw [hput, ← frz_up]; exact hk) fun s' _ hl hev' => ?_
      obtain ⟨e1, e2⟩ := ops' s' hev'
      rw [hput, ← frz_up]
      simp only [opK, ho]
      refine ⟨hdst, ht, ?_⟩
      rw [e1, hev, e2]
      have hk' := hl k hin
      simp only [hk']
      refine ⟨hver, ?_⟩
      simp only [hkind]
      have hc' := hc s'.rw (fun j hj => hl j (near_right hj))
      unfold pureK at hc' ⊢
      split at hc'
      · obtain ⟨q1, rfl, rfl⟩ := hc'; exact ⟨q1, h1, h2, h3, rfl⟩
      · obtain ⟨q1, rfl, rfl⟩ := hc'; exact ⟨q1, h1, h2, h3, rfl⟩
      · obtain ⟨q1, q2, hc'⟩ := hc'
        refine ⟨q1, q2, ?_⟩
        split at hc'
        · obtain ⟨rfl, rfl⟩ := hc'; exact ⟨h1, h2, h3, rfl⟩
        · obtain ⟨rfl, rfl⟩ := hc'; exact ⟨h1, h2, h3, rfl⟩
        · exact hc'.elim
      · obtain ⟨q1, rfl, rfl⟩ := hc'; exact ⟨q1, h1, h2, h3, rfl⟩
      · exact hc'.elim
    · rename_i e c hkind
      obtain ⟨new, ⟨h1, h2, h3, hk⟩, hin2, hc⟩ := cellsK_det hk
      refine mk_local hT hd (rd := []) (val := .junk) (fz := []) (d := k) (r := ⟨ver, .tab e (spl c off new)⟩) hin (by simp) (by rw [hput, ← row_up]; exact hk) fun s' _ hl hev' => ?_
      obtain ⟨e1, e2⟩ := ops' s' hev'
      rw [hput, ← row_up]
      simp only [opK, ho]
      refine ⟨hdst, ht, ?_⟩
      rw [e1, hev, e2]
      have hk' := hl k hin
      simp only [hk']
      refine ⟨hver, ?_⟩
      simp only [hkind]
      rw [cellsK_same (rw := s.rw) (fun j hj => hl j (near_right hj))]
      exact hc _ ⟨h1, h2, fun p hp => oneP_same (fun j hj => hl j (near_right (near_sub hj (hin2 p hp)))) (h3 p hp), rfl⟩
    · exact hk.elim
  · exact hk.elim
theorem new_local [Held] (hT : T.Ok P) {s : St} {o : Oper} {K : Ent → St → Prop} {d : Nat} {kd : RK} {p : Nat → PV} {rd : List Nat} (hdst : o.dst = some d) (hd : ∀ d, o.dst = some d → d < G.n) (h1 : K ⟨rd, .ids o.dst.toList⟩ (newSt s d kd p))
    (h2 : ∀ s' : St, (∀ k, near rd k → s'.rw k = s.rw k) → (∀ y ∈ o.op.operands, s'.ev y = s.ev y) → opK P T s' o (· = newSt s' d kd p)) : LocalK P T G s o K := by
  have hin : near o.dst.toList d := by rw [hdst]; exact near_mem (by simp)
  refine mk_local hT hd (val := p ((s.rw d).ver + 1)) (fz := []) (d := d) (r := ⟨(s.rw d).ver + 1, kd⟩) hin (by simp) (by rw [newSt_up] at h1; rw [hdst] at h1 ⊢; exact h1) fun s' hr hl hev => ?_
  have := h2 s' hr hev
  rw [newSt_up, hl d hin, ← hdst] at this
  exact this
theorem d_local [Held] (hT : T.Ok P) {s : St} {o : Oper} {K : Ent → St → Prop} (hd : ∀ d, o.dst = some d → d < G.n) (hk : dK P T s o K) : LocalK P T G s o K := by
  have read : (readK T s.rw s.ev o.op fun p => K ⟨rdIds s o, .ids []⟩ (s.put o.dst p)) → LocalK P T G s o K := fun hk => by
    obtain ⟨p, hp, hq⟩ := readK_det hk
    refine ⟨⟨p, s.rw, ⟨rdIds s o, .ids []⟩⟩, hp, fun _ _ => rfl, fun s' hr hev => ?_⟩
    have e : s'.stepIn o ⟨p, s.rw, ⟨rdIds s o, .ids []⟩⟩ = s'.put o.dst p := by
      unfold St.stepIn
      simp only [Tc.has, List.any_nil, Bool.false_eq_true, if_false]
    rw [e]
    have hq' : readK T (St.mk s.sl s'.rw).rw (St.mk s.sl s'.rw).ev o.op (· = p) := by
      cases hf : rowFree o with
      | true => exact readK_free hf hq
      | false =>
        refine (readK_same (rw := s.rw) (rw' := s'.rw) (ev := s.ev) (fun x hx k hk => hr k (.inl (near_looks ?_))) _).mpr hq
        simp only [rdIds, hf]
        exact near_flat (List.mem_map.2 ⟨x, by simpa using hx, rfl⟩) hk
    obtain ⟨q, rfl, hy⟩ := read_sound (G := G) hT hq'
    exact (hy.congr (s1 := s') rfl hev).effects hd
  unfold dK at hk
  split at hk
  · rename_i t ad x ho; exact store_local hT ho hd hk
  · rename_i t ho
    simp only [opK, ho] at hk
    split at hk
    · rename_i d hdst
      refine new_local hT hdst hd hk.2 fun s' _ _ => ?_
      simp only [opK, ho, hdst]
      exact ⟨hk.1, trivial⟩
    · exact hk.elim
  · rename_i t x ho
    simp only [opK, ho] at hk
    split at hk
    · rename_i d hdst
      obtain ⟨new, hk, _, hc⟩ := cellsK_det hk
      refine new_local hT hdst hd hk fun s' hr hev => ?_
      simp only [opK, ho, hdst]
      rw [hev x (by simp [ho, Op.operands]), cellsK_same (rw := s.rw) (fun j hj => hr j hj)]
      exact hc _ rfl
    · exact hk.elim
  · rename_i t l c ho
    simp only [opK, ho] at hk
    split at hk
    · rename_i d e kl nl kc nc hdst hte hl hc
      obtain ⟨h1, h2, hk⟩ := hk
      split at hk
      · rename_i z hz
        obtain ⟨h3, h4, h5, h6, hk⟩ := hk
        refine new_local hT hdst hd hk fun s' _ hev => ?_
        simp only [opK, ho, hdst, hte, hev l (by simp [ho, Op.operands]), hev c (by simp [ho, Op.operands]), hl, hc]
        refine ⟨h1, h2, ?_⟩
        simp only [hz]
        exact ⟨h3, h4, h5, h6, trivial⟩
      · exact hk.elim
    · exact hk.elim
  · rename_i t n parts ho
    simp only [opK, ho] at hk
    split at hk
    · rename_i d hdst
      unfold buildK at hk
      obtain ⟨ht, hk⟩ := hk
      split at hk
      · rename_i e hte
        obtain ⟨he, hn, hidx, hbig, hk⟩ := hk
        obtain ⟨c, f, ⟨hdf, hk⟩, hf, hp⟩ := pureL_loc hk
        rw [frz_up] at hk
        have hin : near (o.dst.toList ++ (parts.toList.map fun x => s.ev x.2).flatMap pids) d := near_left (by rw [hdst]; exact near_mem (by simp))
        refine mk_local hT hd (rd := []) (val := .own d ((s.rw d).ver + 1)) (fz := f) (d := d) (r := ⟨(s.rw d).ver + 1, .sli e (T e).size false c⟩) hin (fun j hj => near_right (hf j hj)) (by rw [hdst] at hk ⊢; exact hk) fun s' _ hl hev => ?_
        rw [hdst]
        simp only [opK, ho, hdst]
        refine ⟨ht, ?_⟩
        simp only [hte]
        refine ⟨he, hn, hidx, hbig, ?_⟩
        have hm : (parts.toList.map fun x => s'.ev x.2) = parts.toList.map fun x => s.ev x.2 := map_ev fun x hx => hev _ (by
          simp only [ho, Op.operands, List.mem_toArray, List.mem_map]; exact ⟨x, hx, rfl⟩)
        rw [hm]
        refine hp s'.rw (fun p hp' j hj => hl j (near_right (near_flat hp' hj))) _ ⟨hdf, ?_⟩
        rw [frz_up, hl d hin]
      · exact hk.elim
    · exact hk.elim
  · rename_i t x y ho
    unfold cutR at hk
    split at hk
    · rename_i k ver hev
      split at hk
      · obtain ⟨d, e, c, kd, m, hdst, hrow, h1, h2, h3, h4, hpy, h5, h6, hk⟩ := hk
        have hin : near [k] k := near_mem (by simp)
        refine mk_localE (val := .own k (ver + 1)) (fz := []) (d := k) (r := ⟨ver + 1, .sli e 1 false (c.take m.toNat)⟩) (rd := []) (l := [k]) hin (by simp) (by rw [row_up] at hk; rw [hdst]; exact hk) fun s' _ hl hev' => ?_
        rw [hdst, ← row_up]
        have hx' : s'.ev x = .own k ver := by rw [hev' x (by simp [ho, Op.operands]), hev]
        have hy' : s'.ev y = .v (.int kd m) := by rw [hev' y (by simp [ho, Op.operands]), hpy]
        exact cut_eff hT ho hdst (hd d hdst) hx' (by rw [hl k hin]; exact hrow) h1 h2 h3 h4 hy' h5 h6
      · exact read hk
    · exact read hk
  · rename_i c ho
    split at hk
    · rename_i hc
      split at hk
      · rename_i x y hargs
        simp only [opK, ho, hc] at hk
        split at hk
        · rename_i x' y' t t2 d hargs' hty hdst
          have hxy : x' = x ∧ y' = y := by rw [hargs] at hargs'; simpa using hargs'.symm
          obtain ⟨rfl, rfl⟩ := hxy
          have hmem : ∀ z, z = x' ∨ z = y' → z ∈ o.op.operands := fun z hz => by
            simp only [ho, Op.operands, Call.operands, hc, hargs]
            rcases hz with rfl | rfl <;> simp
          unfold appendK at hk
          obtain ⟨rfl, ht, hk⟩ := hk
          split at hk
          · rename_i e hte
            obtain ⟨he, hby, hk⟩ := hk
            obtain ⟨fr, sz, news, ⟨hsz, hfr, hk⟩, hdet⟩ := slK_det hk
            have mk : ∀ {p : PV} {k : Nat} {r : Row}, near (o.dst.toList ++ pids (s.ev x')) k → K ⟨pids (s.ev y'), .ids (o.dst.toList ++ pids (s.ev x'))⟩ ((St.mk s.sl (upR [] k r s.rw)).put (some d) p) → (∀ s' : St, (∀ k, near (o.dst.toList ++ pids (s.ev x')) k → s'.rw k = s.rw k) → s'.ev x' = s.ev x' →
                (match s'.ev x' with
                  | .v u => isNil u = true ∧ news.length * (T e).bytes ≤ 140737488355328 ∧ newSt s' d (.sli e (T e).size false news) (fun v => .own d v) = (St.mk s'.sl (upR [] k r s'.rw)).put (some d) p
                  | .own k' ver => (s'.rw k').ver = ver ∧ (match (s'.rw k').kind with
                      | .nil => news.length * (T e).bytes ≤ 140737488355328 ∧ appSt s' d k' (.sli e (T e).size false news) = (St.mk s'.sl (upR [] k r s'.rw)).put (some d) p
                      | .sli e' sz' false c => e' = e ∧ sz' = (T e).size ∧ (c.length + news.length) * (T e).bytes ≤ 140737488355328 ∧ appSt s' d k' (.sli e (T e).size false (c ++ news)) = (St.mk s'.sl (upR [] k r s'.rw)).put (some d) p
                      | _ => False)
                  | _ => False)) → LocalK P T G s o K := fun {p k r} hin h1 h2 => by
              refine mk_local hT hd (val := p) (fz := []) (d := k) (r := r) hin (by simp) (by rw [hdst] at h1 ⊢; exact h1) fun s' hr hl hev => ?_
              rw [hdst]
              simp only [opK, ho, hc, hargs, hty, hdst]
              refine ⟨rfl, ht, ?_⟩
              simp only [hte]
              refine ⟨he, hby, ?_⟩
              rw [hev y' (hmem y' (.inr rfl)), slK_same (rw := s.rw) (fun j hj => hr j hj)]
              exact hdet _ ⟨hsz, hfr, h2 s' hl (hev x' (hmem x' (.inl rfl)))⟩
            split at hk
            · rename_i u hev
              obtain ⟨h1, h2, hk⟩ := hk
              have hin : near (o.dst.toList ++ pids (s.ev x')) d := near_left (by rw [hdst]; exact near_mem (by simp))
              rw [newSt_up] at hk
              refine mk hin hk fun s' hl hx => ?_
              rw [hx, hev]
              exact ⟨h1, h2, by rw [newSt_up, hl d hin]⟩
            · rename_i k ver hev
              obtain ⟨hver, hk⟩ := hk
              have hin : near (o.dst.toList ++ pids (s.ev x')) k := near_right (by rw [hev]; exact near_one _)
              split at hk
              · rename_i hkind
                obtain ⟨h1, hk⟩ := hk
                rw [appSt_up] at hk
                refine mk hin hk fun s' hl hx => ?_
                rw [hx, hev]
                simp only [hl k hin]
                refine ⟨hver, ?_⟩
                simp only [hkind]
                exact ⟨h1, by rw [appSt_up, hl k hin]⟩
              · rename_i e' sz' c' hkind
                obtain ⟨h1, h2, h3, hk⟩ := hk
                rw [appSt_up] at hk
                refine mk hin hk fun s' hl hx => ?_
                rw [hx, hev]
                simp only [hl k hin]
                refine ⟨hver, ?_⟩
                simp only [hkind]
                exact ⟨h1, h2, h3, by rw [appSt_up, hl k hin]⟩
              · exact hk.elim
            · exact hk.elim
          · exact hk.elim
        · exact hk.elim
      · exact hk.elim
    ·
      rename_i f hc
      simp only [nK, ho, hc] at hk
      have args : ∀ s' : St, (∀ k, near ((c.args.toList.map s.ev).flatMap (lids s.rw deep) ++ lids s.rw (deep + 1) (s.ev f)) k → s'.rw k = s.rw k) → (∀ y ∈ o.op.operands, s'.ev y = s.ev y) → ∀ g caps, s.ev f = .clo g caps →
          s'.ev f = s.ev f ∧ (c.args.toList.map fun x => lend s'.rw deep (s'.ev x)) ++ caps.map (lend s'.rw deep) = (c.args.toList.map fun x => lend s.rw deep (s.ev x)) ++ caps.map (lend s.rw deep) := fun s' hr hev g caps hf =>
        ⟨hev f (by simp [ho, Op.operands, Call.operands, hc]), by
          congr 1
          · refine List.map_congr_left fun x hx => ?_
            rw [hev x (by simp [ho, Op.operands, Call.operands, hc]; exact .inr (by simpa using hx))]
            exact lend_same _ _ fun k hk => hr k (near_left (near_flat (List.mem_map.2 ⟨x, hx, rfl⟩) hk))
          · refine List.map_congr_left fun q hq => lend_same _ _ fun k hk => hr k (near_right ?_)
            rw [hf]
            exact near_flat hq hk⟩
      cases hdst : o.dst with
      | some d =>
        simp only [hdst] at hk
        rcases hk with hk | hk
        case inr =>
          unfold tdK at hk
          split at hk
          · rename_i g caps hev
            rcases hk with ⟨k, v, e, e2, p, rows, rows', args, r, hat, hg, ht, hn, hdk, hk⟩ | ⟨k, vj, e, x, head, out, ok, fr, haf, hraw, hj, hpl, hdk, hjl, hk⟩ | ⟨rd, k, x, r, hcall, hdk, hk⟩
            · have has : ∀ j, (Tc.ids [d, k]).has j = true ↔ (j % 1000 = d % 1000 ∨ j % 1000 = k % 1000) := fun j => by
                simp only [Tc.has, List.any_cons, List.any_nil, Bool.or_false, Bool.or_eq_true, beq_iff_eq]
                exact ⟨fun h => h.imp Eq.symm Eq.symm, fun h => h.imp Eq.symm Eq.symm⟩
              have hmod : ∀ j, InT k p j → j % 1000 = k % 1000 := fun j hj => by
                rcases hj with rfl | ⟨x, _, rfl⟩
                · rfl
                · rw [sid_eq]; omega
              have hlm : ∀ i, leafId d i % 1000 = d % 1000 := fun i => by unfold leafId; omega
              refine ⟨⟨adopt2 (fun j => (killF s.rw k p j).ver) d r 0, addRows (killF s.rw k p) d (leaves r) 0, ⟨[], .ids [d, k]⟩⟩, ?_, fun j hj => ?_, fun s' hr hev' => ?_⟩
              · have e1 : s.step o ⟨adopt2 (fun j => (killF s.rw k p j).ver) d r 0, addRows (killF s.rw k p) d (leaves r) 0, ⟨[], .ids [d, k]⟩⟩ = adoptSt (s.killed k p) d r := by
                  unfold St.step adoptSt; rw [hdst]; rfl
                rw [e1]; exact hk
              · have hj : ¬ (j % 1000 = d % 1000 ∨ j % 1000 = k % 1000) := fun h => by
                  have := (has j).2 h
                  rw [this] at hj; cases hj
                have h2 := (addRows_congr (R := killF s.rw k p) (R' := killF s.rw k p) (d := d) (fun _ => rfl) j (leaves r) 0).2 fun ⟨m, _, hm⟩ => hj (.inl (by rw [hm]; exact hlm _))
                show addRows (killF s.rw k p) d (leaves r) 0 j = s.rw j
                rw [h2.1, killF_out fun h => hj (.inr (hmod j h))]
              · have hag : ∀ j, (j % 1000 = d % 1000 ∨ j % 1000 = k % 1000) → s'.rw j = s.rw j := fun j hj => hr j (.inr ((has j).2 hj))
                have hkag : ∀ j, (j % 1000 = d % 1000 ∨ j % 1000 = k % 1000) → killF s.rw k p j = killF s'.rw k p j := fun j hj => by unfold killF; rw [hag j hj]
                have e1 : s'.stepIn o ⟨adopt2 (fun j => (killF s.rw k p j).ver) d r 0, addRows (killF s.rw k p) d (leaves r) 0, ⟨[], .ids [d, k]⟩⟩ = adoptSt (s'.killed k p) d r := by
                  unfold St.stepIn adoptSt
                  rw [hdst, adopt2_congr (vr' := fun j => (killF s'.rw k p j).ver) (fun i => by rw [hkag _ (.inl (hlm i))])]
                  congr 2
                  funext j
                  obtain ⟨a1, a2⟩ := addRows_congr (R := killF s.rw k p) (R' := killF s'.rw k p) (d := d) (fun i => hkag _ (.inl (hlm i))) j (leaves r) 0
                  by_cases hl : ∃ m, m < (leaves r).length ∧ j = leafId d (0 + m)
                  · have hb : (Tc.ids [d, k]).has j = true := (has j).2 (.inl (by obtain ⟨m, _, rfl⟩ := hl; exact hlm _))
                    simp only [hb, if_true]
                    exact a1 hl
                  · obtain ⟨b1, b2⟩ := a2 hl
                    show _ = addRows (killF s'.rw k p) d (leaves r) 0 j
                    rw [b2]
                    by_cases hb : (Tc.ids [d, k]).has j = true
                    · simp only [hb, if_true]
                      rw [b1]; exact hkag j ((has j).1 hb)
                    · simp only [hb, if_false]
                      exact (killF_out fun h => hb ((has j).2 (.inr (hmod j h)))).symm
                rw [e1]
                have hargs : c.args.toList.map s'.ev = c.args.toList.map s.ev := List.map_congr_left fun x hx => hev' x (by simp [ho, Op.operands, Call.operands, hc]; exact .inr (by simpa using hx))
                have hf' : s'.ev f = .clo g caps := by rw [hev' f (by simp [ho, Op.operands, Call.operands, hc]), hev]
                refine callTd_eff (rows := rows) ho hc hdst (hd d hdst) hf' hat (by rw [hargs]; exact hg) ⟨?_, ht.len, fun i hi => ?_⟩ hn hdk
                · rw [hag k (.inr rfl)]; exact ht.top
                · rw [hag (sid k (p.getD i 0)) (.inr (sid_mod _ _))]; exact ht.row i hi
            · have has : ∀ j, (Tc.ids [d, k]).has j = true ↔ (j % 1000 = d % 1000 ∨ j % 1000 = k % 1000) := fun j => by
                simp only [Tc.has, List.any_cons, List.any_nil, Bool.or_false, Bool.or_eq_true, beq_iff_eq]
                exact ⟨fun h => h.imp Eq.symm Eq.symm, fun h => h.imp Eq.symm Eq.symm⟩
              have hmod : ∀ j, InT k [] j → j % 1000 = k % 1000 := fun j hj => by
                rcases hj with rfl | ⟨x, _, rfl⟩
                · rfl
                · rw [sid_eq]; omega
              have hlm : ∀ i, leafId d i % 1000 = d % 1000 := fun i => by unfold leafId; omega
              refine ⟨⟨adopt2 (fun j => (killF s.rw k [] j).ver) d (rvF e out ok) 0, addRows (killF s.rw k []) d (leaves (rvF e out ok)) 0, ⟨[], .ids [d, k]⟩⟩, ?_, fun j hj => ?_, fun s' hr hev' => ?_⟩
              · have e1 : s.step o ⟨adopt2 (fun j => (killF s.rw k [] j).ver) d (rvF e out ok) 0, addRows (killF s.rw k []) d (leaves (rvF e out ok)) 0, ⟨[], .ids [d, k]⟩⟩ = adoptSt (s.killed k []) d (rvF e out ok) := by
                  unfold St.step adoptSt; rw [hdst]; rfl
                rw [e1]; exact hk
              · have hj : ¬ (j % 1000 = d % 1000 ∨ j % 1000 = k % 1000) := fun h => by
                  have := (has j).2 h
                  rw [this] at hj; cases hj
                have h2 := (addRows_congr (R := killF s.rw k []) (R' := killF s.rw k []) (d := d) (fun _ => rfl) j (leaves (rvF e out ok)) 0).2 fun ⟨m, _, hm⟩ => hj (.inl (by rw [hm]; exact hlm _))
                show addRows (killF s.rw k []) d (leaves (rvF e out ok)) 0 j = s.rw j
                rw [h2.1, killF_out fun h => hj (.inr (hmod j h))]
              · have hag : ∀ j, (j % 1000 = d % 1000 ∨ j % 1000 = k % 1000) → s'.rw j = s.rw j := fun j hj => hr j (.inr ((has j).2 hj))
                have hkag : ∀ j, (j % 1000 = d % 1000 ∨ j % 1000 = k % 1000) → killF s.rw k [] j = killF s'.rw k [] j := fun j hj => by unfold killF; rw [hag j hj]
                have e1 : s'.stepIn o ⟨adopt2 (fun j => (killF s.rw k [] j).ver) d (rvF e out ok) 0, addRows (killF s.rw k []) d (leaves (rvF e out ok)) 0, ⟨[], .ids [d, k]⟩⟩ = adoptSt (s'.killed k []) d (rvF e out ok) := by
                  unfold St.stepIn adoptSt
                  rw [hdst, adopt2_congr (vr' := fun j => (killF s'.rw k [] j).ver) (fun i => by rw [hkag _ (.inl (hlm i))])]
                  congr 2
                  funext j
                  obtain ⟨a1, a2⟩ := addRows_congr (R := killF s.rw k []) (R' := killF s'.rw k []) (d := d) (fun i => hkag _ (.inl (hlm i))) j (leaves (rvF e out ok)) 0
                  by_cases hl : ∃ m, m < (leaves (rvF e out ok)).length ∧ j = leafId d (0 + m)
                  · have hb : (Tc.ids [d, k]).has j = true := (has j).2 (.inl (by obtain ⟨m, _, rfl⟩ := hl; exact hlm _))
                    simp only [hb, if_true]
                    exact a1 hl
                  · obtain ⟨b1, b2⟩ := a2 hl
                    show _ = addRows (killF s'.rw k []) d (leaves (rvF e out ok)) 0 j
                    rw [b2]
                    by_cases hb : (Tc.ids [d, k]).has j = true
                    · simp only [hb, if_true]
                      rw [b1]; exact hkag j ((has j).1 hb)
                    · simp only [hb, if_false]
                      exact (killF_out fun h => hb ((has j).2 (.inr (hmod j h)))).symm
                rw [e1]
                have hargs : c.args.toList.map s'.ev = c.args.toList.map s.ev := List.map_congr_left fun x hx => hev' x (by simp [ho, Op.operands, Call.operands, hc]; exact .inr (by simpa using hx))
                have hf' : s'.ev f = .clo g caps := by rw [hev' f (by simp [ho, Op.operands, Call.operands, hc]), hev]
                exact callCd_eff ho hc hdst (hd d hdst) hf' haf (by rw [hargs]; exact hraw) (.inl ⟨fr, rfl⟩) (by rw [hag k (.inr rfl)]; exact hj) hpl (fun h => hdk (by rw [h])) hjl
            · have has : ∀ j, (Tc.ids [d, k]).has j = true ↔ (j % 1000 = d % 1000 ∨ j % 1000 = k % 1000) := fun j => by
                simp only [Tc.has, List.any_cons, List.any_nil, Bool.or_false, Bool.or_eq_true, beq_iff_eq]
                exact ⟨fun h => h.imp Eq.symm Eq.symm, fun h => h.imp Eq.symm Eq.symm⟩
              have hlm : ∀ i, leafId d i % 1000 = d % 1000 := fun i => by unfold leafId; omega
              refine ⟨⟨adopt2 (fun j => ((s.row k r).rw j).ver) d x 0, addRows (s.row k r).rw d (leaves x) 0, ⟨rd, .ids [d, k]⟩⟩, ?_, fun j hj => ?_, fun s' hr hev' => ?_⟩
              · have e1 : s.step o ⟨adopt2 (fun j => ((s.row k r).rw j).ver) d x 0, addRows (s.row k r).rw d (leaves x) 0, ⟨rd, .ids [d, k]⟩⟩ = adoptSt (s.row k r) d x := by
                  unfold St.step adoptSt; rw [hdst]; rfl
                rw [e1]; exact hk
              · have hj : ¬ (j % 1000 = d % 1000 ∨ j % 1000 = k % 1000) := fun h => by
                  have := (has j).2 h
                  rw [this] at hj; cases hj
                have h2 := (addRows_congr (R := (s.row k r).rw) (R' := (s.row k r).rw) (d := d) (fun _ => rfl) j (leaves x) 0).2 fun ⟨m, _, hm⟩ => hj (.inl (by rw [hm]; exact hlm _))
                show addRows (s.row k r).rw d (leaves x) 0 j = s.rw j
                rw [h2.1]; exact if_neg fun h => hj (.inr (by rw [h]))
              · have hkag : ∀ j, (j % 1000 = d % 1000 ∨ j % 1000 = k % 1000) → (s.row k r).rw j = (s'.row k r).rw j := fun j hj => by
                  show (if j = k then r else s.rw j) = (if j = k then r else s'.rw j)
                  rw [hr j (.inr ((has j).2 hj))]
                have e1 : s'.stepIn o ⟨adopt2 (fun j => ((s.row k r).rw j).ver) d x 0, addRows (s.row k r).rw d (leaves x) 0, ⟨rd, .ids [d, k]⟩⟩ = adoptSt (s'.row k r) d x := by
                  unfold St.stepIn adoptSt
                  rw [hdst, adopt2_congr (vr' := fun j => ((s'.row k r).rw j).ver) (fun i => by rw [hkag _ (.inl (hlm i))])]
                  congr 2
                  funext j
                  obtain ⟨a1, a2⟩ := addRows_congr (R := (s.row k r).rw) (R' := (s'.row k r).rw) (d := d) (fun i => hkag _ (.inl (hlm i))) j (leaves x) 0
                  by_cases hl : ∃ m, m < (leaves x).length ∧ j = leafId d (0 + m)
                  · have hb : (Tc.ids [d, k]).has j = true := (has j).2 (.inl (by obtain ⟨m, _, rfl⟩ := hl; exact hlm _))
                    simp only [hb, if_true]
                    exact a1 hl
                  · obtain ⟨b1, b2⟩ := a2 hl
                    show _ = addRows (s'.row k r).rw d (leaves x) 0 j
                    rw [b2]
                    by_cases hb : (Tc.ids [d, k]).has j = true
                    · simp only [hb, if_true]
                      rw [b1]; exact hkag j ((has j).1 hb)
                    · simp only [hb, if_false]
                      exact (if_neg fun h => hb ((has j).2 (.inr (by rw [h])))).symm
                rw [e1]
                have hargs : c.args.toList.map s'.ev = c.args.toList.map s.ev := List.map_congr_left fun x hx => hev' x (by simp [ho, Op.operands, Call.operands, hc]; exact .inr (by simpa using hx))
                have hf' : s'.ev f = .clo g caps := by rw [hev' f (by simp [ho, Op.operands, Call.operands, hc]), hev]
                intro a w hs K' Q hK
                refine callG_sound (K := fun S => S = adoptSt (s'.row k r) d x) ho hc (fun y hy => by rw [hdst] at hy; cases hy; exact hd d hdst) ?_ hs fun s1 a' w' hw hs1 => hK a' w' (hw ▸ hs1)
                rw [hf']
                show askG P s' g (c.args.toList.map s'.ev ++ caps) o.dst _
                rw [hargs, hdst]
                exact hcall s' (hr k (.inr ((has k).2 (.inr rfl)))) (fun a ha => hr a (.inl (List.any_eq_true.2 ⟨a, ha, by simp⟩))) _ rfl
          · exact hk.elim
        unfold callK at hk
        split at hk
        · rename_i g caps hev
          obtain ⟨rv, hac, hk⟩ := hk
          have vers : ∀ s' : St, (∀ k, (Tc.res d).has k = true → s'.rw k = s.rw k) → adopt2 (fun k => (s'.rw k).ver) d rv 0 = adopt2 (fun k => (s.rw k).ver) d rv 0 ∧ ∀ k, addRows s'.rw d (leaves rv) 0 k = if (Tc.res d).has k = true then addRows s.rw d (leaves rv) 0 k else s'.rw k := fun s' hr => by
            have hleaf : ∀ i, s'.rw (leafId d i) = s.rw (leafId d i) := fun i => hr _ (by simp [Tc.has, leafId])
            refine ⟨?_, fun k => ?_⟩
            · have e0 : ∀ (r : RV) (i : Nat), adopt0 (fun k => (s'.rw k).ver) d r i = adopt0 (fun k => (s.rw k).ver) d r i := fun r i => by
                cases r <;> simp only [adopt0, hleaf]
              have eL : ∀ (f g : RV → Nat → PV), (∀ r i, f r i = g r i) → ∀ l i, adoptL f l i = adoptL g l i := fun f g h l => by
                induction l with
                | nil => intro i; rfl
                | cons r rs ih => intro i; simp only [adoptL, h, ih]
              have e1 : ∀ (r : RV) (i : Nat), adopt1 (fun k => (s'.rw k).ver) d r i = adopt1 (fun k => (s.rw k).ver) d r i := fun r i => by
                cases r <;> simp only [adopt1, e0, eL _ _ e0]
              cases rv <;> simp only [adopt2, e1, e0, eL _ _ e1]
            · have : ∀ (ls : List (TypeId × Option Nat × List PV)) (i : Nat), addRows s'.rw d ls i k = if (Tc.res d).has k = true then addRows s.rw d ls i k else s'.rw k := by
                intro ls
                induction ls with
                | nil =>
                  intro i
                  simp only [addRows]
                  by_cases hk : (Tc.res d).has k = true
                  · rw [if_pos hk]; exact hr k hk
                  · rw [if_neg hk]
                | cons l ls ih =>
                  intro i
                  obtain ⟨e, sz, c⟩ := l
                  simp only [addRows]
                  by_cases he : k = leafId d i
                  · subst he
                    rw [updF_same, updF_same, if_pos (by simp [Tc.has, leafId]), hleaf]
                    have hk : leafKind s'.rw d i e sz c = leafKind s.rw d i e sz c := by
                      cases sz <;> simp [leafKind, tabCells, hleaf]
                    rw [hk]
                  · rw [updF_other _ _ he, updF_other _ _ he]; exact ih (i + 1)
              exact this _ _
          refine ⟨⟨adopt2 (fun k => (s.rw k).ver) d rv 0, addRows s.rw d (leaves rv) 0, ⟨(c.args.toList.map s.ev).flatMap (lids s.rw deep) ++ lids s.rw (deep + 1) (s.ev f), .res d⟩⟩, ?_, fun k hn => ?_, fun s' hr hev' => ?_⟩
          · have e : s.step o ⟨adopt2 (fun k => (s.rw k).ver) d rv 0, addRows s.rw d (leaves rv) 0, ⟨(c.args.toList.map s.ev).flatMap (lids s.rw deep) ++ lids s.rw (deep + 1) (s.ev f), .res d⟩⟩ = adoptSt s d rv := by unfold St.step adoptSt; rw [hdst]
            rw [e]; exact hk
          · have hn : (Tc.res d).has k = false := hn
            have := (vers s fun _ _ => rfl).2 k
            rw [hn] at this
            simpa using this
          · obtain ⟨v1, v2⟩ := vers s' fun k hk => hr k (.inr hk)
            have e : s'.stepIn o ⟨adopt2 (fun k => (s.rw k).ver) d rv 0, addRows s.rw d (leaves rv) 0, ⟨(c.args.toList.map s.ev).flatMap (lids s.rw deep) ++ lids s.rw (deep + 1) (s.ev f), .res d⟩⟩ = adoptSt s' d rv := by
              unfold St.stepIn adoptSt
              rw [hdst, v1]
              congr 2
              funext k
              exact (v2 k).symm
            rw [e]
            obtain ⟨a1, a2⟩ := args s' (fun k hk => hr k (.inl (near_looks hk))) hev' g caps hev
            obtain ⟨s2, rfl, he⟩ := call_sound (K := (· = adoptSt s' d rv)) (s := s') ho hc hdst (hd d hdst) (by
              unfold callK
              rw [a1, hev]
              simp only
              rw [a2]
              exact ⟨rv, hac, rfl⟩)
            exact he
        · exact hk.elim
      | none =>
        simp only [hdst] at hk
        unfold callK at hk
        split at hk
        · rename_i g caps hev
          obtain ⟨rv, hac, hk⟩ := hk
          refine ⟨⟨.junk, s.rw, ⟨(c.args.toList.map s.ev).flatMap (lids s.rw deep) ++ lids s.rw (deep + 1) (s.ev f), .ids []⟩⟩, ?_, fun k _ => rfl, fun s' hr hev' => ?_⟩
          · have e : s.step o ⟨.junk, s.rw, ⟨(c.args.toList.map s.ev).flatMap (lids s.rw deep) ++ lids s.rw (deep + 1) (s.ev f), .ids []⟩⟩ = s := by unfold St.step St.put; rw [hdst]
            rw [e]; exact hk
          · have e : s'.stepIn o ⟨.junk, s.rw, ⟨(c.args.toList.map s.ev).flatMap (lids s.rw deep) ++ lids s.rw (deep + 1) (s.ev f), .ids []⟩⟩ = s' := by
              unfold St.stepIn St.put
              rw [hdst]
              simp only [Tc.has, List.any_nil, Bool.false_eq_true, if_false]
            rw [e]
            obtain ⟨a1, a2⟩ := args s' (fun k hk => hr k (.inl (near_looks hk))) hev' g caps hev
            obtain ⟨s2, rfl, he⟩ := op_sound (G := G) (K := (· = s')) (s := s') (o := o) hT hd (by
              simp only [opK, ho, hc, hdst]
              refine .inl ?_
              unfold callK
              rw [a1, hev]
              simp only
              rw [a2]
              exact ⟨rv, hac, trivial⟩)
            exact he
        · exact hk.elim
    · exact read hk
  · exact read hk
end
end Go.Abs
