/- DERIVED by an AI agent. Rules by which simp carries a text out, head first. No program in sight. -/
import Derived.Test.YtpnknaaehcljoaaGreatA12
namespace Go.Abs
set_option linter.unusedSimpArgs false
set_option linter.unusedVariables false
def iL (xs : List Int) : List PV := xs.map fun n => .v (.int .i64 n)
def kL (k : IntKind) (xs : List Int) : List PV := xs.map fun n => .v (.int k n)
def sL (xs : List ByteArray) : List PV := xs.map fun n => .v (.string n)
def bL (xs : List Bool) : List PV := xs.map fun n => .v (.bool n)
def iLL (xss : List (List Int)) : List PV := xss.map fun r => .sl false 1 (iL r)
abbrev ints (xs : List Int) : PV := .sl false 1 (iL xs)
abbrev strs (xs : List ByteArray) : PV := .sl false 1 (sL xs)
abbrev int2 (xss : List (List Int)) : PV := .sl false 1 (iLL xss)
abbrev int (n : Int) : PV := .v (.int .i64 n)
abbrev u64 (n : Int) : PV := .v (.int .u64 n)
abbrev bool (b : Bool) : PV := .v (.bool b)
abbrev str (s : ByteArray) : PV := .v (.string s)
theorem iL_length (xs : List Int) : (iL xs).length = xs.length := by simp [iL]
theorem kL_length (k : IntKind) (xs : List Int) : (kL k xs).length = xs.length := by simp [kL]
theorem sL_length (xs : List ByteArray) : (sL xs).length = xs.length := by simp [sL]
theorem bL_length (xs : List Bool) : (bL xs).length = xs.length := by simp [bL]
theorem iLL_length (xs : List (List Int)) : (iLL xs).length = xs.length := by simp [iLL]
theorem iL_append (xs ys : List Int) : iL xs ++ iL ys = iL (xs ++ ys) := by simp [iL]
theorem iL_snoc (xs : List Int) (n : Int) : iL xs ++ [.v (.int .i64 n)] = iL (xs ++ [n]) := by simp [iL]
theorem kL_append (k : IntKind) (xs ys : List Int) : kL k xs ++ kL k ys = kL k (xs ++ ys) := by simp [kL]
theorem kL_snoc (k : IntKind) (xs : List Int) (n : Int) : kL k xs ++ [.v (.int k n)] = kL k (xs ++ [n]) := by simp [kL]
theorem sL_snoc (xs : List ByteArray) (n : ByteArray) : sL xs ++ [.v (.string n)] = sL (xs ++ [n]) := by simp [sL]
theorem sL_append (xs ys : List ByteArray) : sL xs ++ sL ys = sL (xs ++ ys) := by simp [sL]
theorem iLL_snoc (xs : List (List Int)) (r : List Int) : iLL xs ++ [.sl false 1 (iL r)] = iLL (xs ++ [r]) := by simp [iLL]
theorem iLL_append (xs ys : List (List Int)) : iLL xs ++ iLL ys = iLL (xs ++ ys) := by simp [iLL]
theorem iL_take (xs : List Int) (n : Nat) : (iL xs).take n = iL (xs.take n) := by simp [iL]
theorem iL_drop (xs : List Int) (n : Nat) : (iL xs).drop n = iL (xs.drop n) := by simp [iL]
theorem sL_take (xs : List ByteArray) (n : Nat) : (sL xs).take n = sL (xs.take n) := by simp [sL]
theorem sL_drop (xs : List ByteArray) (n : Nat) : (sL xs).drop n = sL (xs.drop n) := by simp [sL]
theorem iLL_take (xs : List (List Int)) (n : Nat) : (iLL xs).take n = iLL (xs.take n) := by simp [iLL]
theorem iLL_drop (xs : List (List Int)) (n : Nat) : (iLL xs).drop n = iLL (xs.drop n) := by simp [iLL]
theorem iL_spl (xs : List Int) (i : Nat) (n : Int) : spl (iL xs) i [.v (.int .i64 n)] = iL (xs.set i n) := by simp [spl, iL]
theorem spl_c0 (a p : PV) (c : List PV) : spl (a :: c) 0 [p] = p :: c := by simp [spl]
theorem spl_c1 (a b p : PV) (c : List PV) : spl (a :: b :: c) 1 [p] = a :: p :: c := by simp [spl]
theorem spl_c2 (a b d p : PV) (c : List PV) : spl (a :: b :: d :: c) 2 [p] = a :: b :: p :: c := by simp [spl]
theorem spl_c3 (a b d e p : PV) (c : List PV) : spl (a :: b :: d :: e :: c) 3 [p] = a :: b :: d :: p :: c := by simp [spl]
theorem spl_22 (a b p q : PV) : spl [a, b] 0 [p, q] = [p, q] := by simp [spl]
theorem spl_42 (a b c d p q : PV) : spl [a, b, c, d] 0 [p, q] = [p, q, c, d] := by simp [spl]
theorem spl_422 (a b c d p q : PV) : spl [a, b, c, d] 2 [p, q] = [a, b, p, q] := by simp [spl]
theorem spl_44 (a b c d p q r s : PV) : spl [a, b, c, d] 0 [p, q, r, s] = [p, q, r, s] := by simp [spl]
theorem bL_spl (xs : List Bool) (i : Nat) (n : Bool) : spl (bL xs) i [.v (.bool n)] = bL (xs.set i n) := by simp [spl, bL]
theorem iLL_spl (xs : List (List Int)) (i : Nat) (r : List Int) : spl (iLL xs) i [.sl false 1 (iL r)] = iLL (xs.set i r) := by simp [spl, iLL]
theorem iL_replicate (n : Nat) (x : Int) : List.replicate n (PV.v (.int .i64 x)) = iL (List.replicate n x) := by simp [iL]
theorem bL_replicate (n : Nat) (x : Bool) : List.replicate n (PV.v (.bool x)) = bL (List.replicate n x) := by simp [bL]
theorem iL_isV (xs : List Int) : (∀ p ∈ iL xs, isV p = true) = True := by simp [iL, isV, Value.oneCell']
theorem kL_isV (k : IntKind) (xs : List Int) : (∀ p ∈ kL k xs, isV p = true) = True := by simp [kL, isV, Value.oneCell']
theorem sL_isV (xs : List ByteArray) : (∀ p ∈ sL xs, isV p = true) = True := by simp [sL, isV, Value.oneCell']
theorem iLL_oneQ (xs : List (List Int)) : (∀ p ∈ iLL xs, oneQ p = true) = True := by simp [iLL, oneQ]
theorem one_int (k : IntKind) (n : Int) : (Value.int k n).oneCell' = true := (rfl)
theorem one_bool (b : Bool) : (Value.bool b).oneCell' = true := (rfl)
theorem one_string (b : ByteArray) : (Value.string b).oneCell' = true := (rfl)
theorem one_slice (a : Option Addr) (l c : Nat) : (Value.slice a l c).oneCell' = true := (rfl)
theorem put_none (s : St) (p : PV) : s.put none p = s := (rfl)
theorem put_rw (s : St) (d : Option Nat) (p : PV) : (s.put d p).rw = s.rw := by cases d <;> rfl
theorem row_sl (s : St) (k : Nat) (r : Row) : (s.row k r).sl = s.sl := (rfl)
theorem row_rw_same (s : St) (k : Nat) (r : Row) : (s.row k r).rw k = r := by simp [St.row]
theorem row_rw_ne (s : St) (k j : Nat) (r : Row) (h : j ≠ k) : (s.row k r).rw j = s.rw j := by simp [St.row, h]
theorem freeze_sl (s : St) (ks : List Nat) : (s.freeze ks).sl = s.sl := (rfl)
theorem freeze_rw (s : St) (ks : List Nat) (k : Nat) : (s.freeze ks).rw k = if k ∈ ks then frz (s.rw k) else s.rw k := (rfl)
theorem frz_sli (ver : Nat) (e sz : Nat) (fz : Bool) (c : List PV) : frz ⟨ver, .sli e sz fz c⟩ = ⟨ver, .sli e sz true c⟩ := (rfl)
theorem ev_tmp (s : St) (t : Nat) : s.ev (.tmp t) = s.sl t := (rfl)
theorem ev_func (s : St) (f : FuncId) : s.ev (.func f) = .clo f [] := (rfl)
theorem ev_int (s : St) (k : IntKind) (n : Int) : s.ev (.const (.int k n)) = .v (.int k n) := (rfl)
theorem ev_bool (s : St) (b : Bool) : s.ev (.const (.bool b)) = .v (.bool b) := (rfl)
theorem ev_string (s : St) (b : ByteArray) : s.ev (.const (.string b)) = .v (.string b) := (rfl)
theorem ev_slice (s : St) (a : Option Addr) (l c : Nat) : s.ev (.const (.slice a l c)) = .v (.slice a l c) := (rfl)
theorem ev_agg (s : St) (cs : List Value) : s.ev (.const (.agg ⟨cs⟩)) = .ag (cs.map PV.v) := (rfl)
theorem init_sl (args : List PV) (i : Nat) : (St.init args).sl i = args.getD i .junk := (rfl)
theorem init_rw (args : List PV) (i : Nat) : (St.init args).rw i = ⟨0, .dead⟩ := (rfl)
theorem getD_zero {α : Type} (a : α) (l : List α) (d : α) : (a :: l).getD 0 d = a := (rfl)
theorem getD_succ {α : Type} (a : α) (l : List α) (i : Nat) (d : α) : (a :: l).getD (i + 1) d = l.getD i d := (rfl)
theorem getD_nil {α : Type} (i : Nat) (d : α) : ([] : List α).getD i d = d := (rfl)
theorem newSt_eq (s : St) (d : Nat) (kd : RK) (p : Nat → PV) : newSt s d kd p = (s.row d ⟨(s.rw d).ver + 1, kd⟩).put (some d) (p ((s.rw d).ver + 1)) := (rfl)
theorem appSt_eq (s : St) (d k : Nat) (kd : RK) : appSt s d k kd = (s.row k ⟨(s.rw k).ver + 1, kd⟩).put (some d) (.own k ((s.rw k).ver + 1)) := (rfl)
def St.with (g : St) (l : List (Nat × PV)) (r : List (Nat × Row)) : St := r.foldl (fun s x => s.row x.1 x.2) (l.foldl (fun s x => s.put (some x.1) x.2) g)
structure Dm {α : Type} (K : α) : Type
def kk {α : Type} (K : α) (_ : Dm K := ⟨⟩) : α := K
theorem kk_eq {α β : Type} (K : α → β) (u : Dm K) (x : α) : kk K u x = K x := (rfl)
def evK (p : PV) (K : PV → Prop) : Prop := K p
theorem evK_v (v : Value) (K : PV → Prop) : evK (.v v) K = K (.v v) := (rfl)
theorem evK_sl (fr : Bool) (z : Nat) (c : List PV) (K : PV → Prop) : evK (.sl fr z c) K = K (.sl fr z c) := (rfl)
theorem evK_own (j v : Nat) (K : PV → Prop) : evK (.own j v) K = K (.own j v) := (rfl)
theorem evK_ref (j v o : Nat) (K : PV → Prop) : evK (.ref j v o) K = K (.ref j v o) := (rfl)
theorem evK_eref (fr : Bool) (c : List PV) (o : Nat) (K : PV → Prop) : evK (.eref fr c o) K = K (.eref fr c o) := (rfl)
theorem evK_ag (c : List PV) (K : PV → Prop) : evK (.ag c) K = K (.ag c) := (rfl)
theorem evK_tup (c : List PV) (K : PV → Prop) : evK (.tup c) K = K (.tup c) := (rfl)
theorem evK_clo (f : FuncId) (c : List PV) (K : PV → Prop) : evK (.clo f c) K = K (.clo f c) := (rfl)
theorem evK_junk (K : PV → Prop) : evK .junk K = K .junk := (rfl)
section
variable {P : Program} {T : Tab} {ops : Array Oper} {Q : AX → St → Prop} {s : St}
def condK (p : PV) (A B : Prop) : Prop := match p with | .v (.bool b) => (b = true → A) ∧ (b = false → B) | _ => False
def c1 (b : Bool) (A B : Prop) : Prop := (b = true → A) ∧ (b = false → B)
def c2 (b : Bool) (A B : Prop) : Prop := (b = true → A) ∧ (b = false → B)
def d1 (b : Bool) (A B : Prop) : Prop := (b = false → A) ∧ (b = true → B)
def d2 (b : Bool) (A B : Prop) : Prop := (b = false → A) ∧ (b = true → B)
theorem c1_tt (A B : Prop) : c1 true (kk A) (kk B) = A := by simp [c1, kk]
theorem c1_ff (A B : Prop) : c1 false (kk A) (kk B) = B := by simp [c1, kk]
theorem c2_tt (A B : Prop) : c2 true (kk A) (kk B) = A := by simp [c2, kk]
theorem c2_ff (A B : Prop) : c2 false (kk A) (kk B) = B := by simp [c2, kk]
theorem d1_tt (A B : Prop) : d1 true (kk A) (kk B) = B := by simp [d1, kk]
theorem d1_ff (A B : Prop) : d1 false (kk A) (kk B) = A := by simp [d1, kk]
theorem d2_tt (A B : Prop) : d2 true (kk A) (kk B) = B := by simp [d2, kk]
theorem d2_ff (A B : Prop) : d2 false (kk A) (kk B) = A := by simp [d2, kk]
theorem c1_any (b : Bool) (A B : Prop) : c1 b A B = c2 b A B := (rfl)
theorem c2_any (b : Bool) (A B : Prop) : c2 b (kk A) (kk B) = ((b = true → A) ∧ (b = false → B)) := (rfl)
theorem d1_any (b : Bool) (A B : Prop) : d1 b A B = d2 b A B := (rfl)
theorem d2_any (b : Bool) (A B : Prop) : d2 b (kk A) (kk B) = ((b = false → A) ∧ (b = true → B)) := (rfl)
theorem condK_bool (b : Bool) (A B : Prop) : condK (.v (.bool b)) A B = c1 b A B := (rfl)
theorem cwp_skip [Held] : cwp P T .skip Q s = Q .norm s := (rfl)
theorem cwp_region_f [Held] (id : Nat) : cwp P T (.region id ops false) Q s = opsK P T ops ops.toList s (Q .norm) := (rfl)
theorem cwp_region_t [Held] (id : Nat) : cwp P T (.region id ops true) Q s = (orderOk ops = true ∧ drawK P T ops [] ops.toList s (Q .norm)) := (rfl)
theorem cwp_seq [Held] (x y : Code) : cwp P T (.seq x y) Q s = cwp P T x (AX.seq (cwp P T y Q) Q) s := (rfl)
theorem cwp_cond [Held] (c : Operand) (x y : Code) : cwp P T (.cond c x y) Q s = condK (s.ev c) (kk (cwp P T x Q s)) (kk (cwp P T y Q s)) := (rfl)
theorem cwp_block [Held] (id : Nat) (x : Code) : cwp P T (.block id x) Q s = cwp P T x (AX.blk id Q) s := (rfl)
theorem cwp_loop [Held] (x : Code) : cwp P T (.loop x) Q s = loopK (kk (cwp P T x)) (kk Q) s := (rfl)
theorem cwp_exit [Held] (id : Nat) : cwp P T (.exit id) Q s = Q (.exit id) s := (rfl)
theorem cwp_ret [Held] : cwp P T .ret Q s = Q .ret s := (rfl)
theorem cwp_label [Held] (l : Nat) : cwp P T (.label l) Q s = Q .norm s := (rfl)
variable {K : St → Prop}
theorem seq_norm : AX.seq K Q .norm s = K s := (rfl)
theorem seq_ret : AX.seq K Q .ret s = Q .ret s := (rfl)
theorem seq_exit (id : Nat) : AX.seq K Q (.exit id) s = Q (.exit id) s := (rfl)
theorem blk_norm (id : Nat) : AX.blk id Q .norm s = Q .norm s := (rfl)
theorem blk_ret (id : Nat) : AX.blk id Q .ret s = Q .ret s := (rfl)
theorem blk_exit_same (id : Nat) : AX.blk id Q (.exit id) s = Q .norm s := by simp [AX.blk]
theorem blk_exit_ne (id i : Nat) (h : i ≠ id) : AX.blk id Q (.exit i) s = Q (.exit i) s := by simp [AX.blk, h]
theorem endK_ret (rs : List ResultVar) (rv : RV) : endK T rs rv .ret s = retK T s rs rv := (rfl)
theorem endK_norm (rs : List ResultVar) (rv : RV) : endK T rs rv .norm s = retK T s rs rv := (rfl)
theorem opsK_nil [Held] : opsK P T ops [] s K = K s := (rfl)
theorem allBelow_of : ∀ (n : Nat) (p : Nat → Bool), (∀ k, k < n → p k = true) → allBelow n p = true := by
  intro n
  induction n with
  | zero => intro p _; rfl
  | succ n ih => intro p h; simp only [allBelow, Bool.and_eq_true]; exact ⟨h n (by omega), ih p fun k hk => h k (by omega)⟩
def clr (e : Ent) : List Ent → Bool | [] => true | e' :: l => !conf e' e && clr e l
def noConf : List Ent → Bool | [] => true | e :: l => clr e l && noConf l
theorem noConf_pair : ∀ {l : List Ent}, noConf l = true → l.Pairwise fun a b => conf b a = false := by
  intro l
  induction l with
  | nil => intro _; exact .nil
  | cons e l ih =>
    intro h
    simp only [noConf, Bool.and_eq_true] at h
    refine List.pairwise_cons.2 ⟨?_, ih h.2⟩
    have : ∀ l' : List Ent, clr e l' = true → ∀ b ∈ l', conf b e = false := by
      intro l'
      induction l' with
      | nil => intro _ b hb; cases hb
      | cons x l' ih' =>
        intro h b hb
        simp only [clr, Bool.and_eq_true, Bool.not_eq_true'] at h
        rcases List.mem_cons.1 hb with rfl | hb
        · exact h.1
        · exact ih' h.2 b hb
    exact this l h.1
theorem lines_none [Held] {l : List Ent} (h : noConf l = true) : lines ops l.reverse = true := by
  have hp : l.reverse.Pairwise fun a b => conf a b = false := List.pairwise_reverse.2 (noConf_pair h)
  unfold lines
  refine allBelow_of _ _ fun j hj => allBelow_of _ _ fun i hi => ?_
  split
  · rename_i a b ha hb
    obtain ⟨h1, rfl⟩ := List.getElem?_eq_some_iff.1 ha
    obtain ⟨h2, rfl⟩ := List.getElem?_eq_some_iff.1 hb
    have := List.pairwise_iff_getElem.1 hp i j h1 h2 hi
    rw [this]; rfl
  · rfl
def linesK (ops : Array Oper) (acc : List Ent) (A : Prop) : Prop := lines ops acc.reverse = true ∧ A
def lnK (b : Bool) (ops : Array Oper) (acc : List Ent) (A : Prop) : Prop := match b with | true => A | false => lines ops acc.reverse = true ∧ A
theorem linesK_eq [Held] (acc : List Ent) (A : Prop) : linesK ops acc (kk A) = lnK (noConf acc) ops acc (kk A) := by
  unfold linesK lnK
  cases h : noConf acc with
  | true => simp [lines_none h, kk]
  | false => rfl
theorem lnK_t (acc : List Ent) (A : Prop) : lnK true ops acc (kk A) = A := (rfl)
theorem lnK_f (acc : List Ent) (A : Prop) : lnK false ops acc (kk A) = (lines ops acc.reverse = true ∧ A) := (rfl)
theorem nc_nil : noConf [] = true := (rfl)
theorem nc_cons (e : Ent) (l : List Ent) : noConf (e :: l) = (clr e l && noConf l) := (rfl)
theorem clr_nil (e : Ent) : clr e [] = true := (rfl)
theorem clr_cons (e e' : Ent) (l : List Ent) : clr e (e' :: l) = (!conf e' e && clr e l) := (rfl)
def hitL (l : List Nat) (t : Tc) : Bool := l.any t.has
theorem hitL_nil (t : Tc) : hitL [] t = false := (rfl)
theorem hitL_cons (k : Nat) (l : List Nat) (t : Tc) : hitL (k :: l) t = (t.has k || hitL l t) := (rfl)
theorem has_nil (k : Nat) : (Tc.ids []).has k = false := (rfl)
theorem has_cons (a : Nat) (l : List Nat) (k : Nat) : (Tc.ids (a :: l)).has k = (a % 1000 == k % 1000 || (Tc.ids l).has k) := (rfl)
theorem has_res (d k : Nat) : (Tc.res d).has k = (k % 1000 == d % 1000) := (rfl)
theorem conf_q (a b : List Nat) : conf ⟨a, .ids []⟩ ⟨b, .ids []⟩ = false := by
  have e : ∀ l : List Nat, l.any (Tc.ids []).has = false := fun l => by
    rw [List.any_eq_false]; intro x _; simp [Tc.has]
  simp [conf, e, tcHits]
theorem conf_ii (a b t u : List Nat) : conf ⟨a, .ids t⟩ ⟨b, .ids u⟩ = (hitL a (.ids u) || (hitL b (.ids t) || hitL t (.ids u))) := by simp [conf, hitL, tcHits, Bool.or_assoc]
theorem conf_ir (a b t : List Nat) (d : Nat) : conf ⟨a, .ids t⟩ ⟨b, .res d⟩ = (hitL a (.res d) || (hitL b (.ids t) || hitL t (.res d))) := by simp [conf, hitL, tcHits, Bool.or_assoc]
theorem conf_ri (a b t : List Nat) (d : Nat) : conf ⟨a, .res d⟩ ⟨b, .ids t⟩ = (hitL a (.ids t) || (hitL b (.res d) || hitL t (.res d))) := by simp [conf, hitL, tcHits, Bool.or_assoc]
theorem conf_rr (a b : List Nat) (d d' : Nat) : conf ⟨a, .res d⟩ ⟨b, .res d'⟩ = (hitL a (.res d') || (hitL b (.res d) || (d % 1000 == d' % 1000))) := by simp [conf, hitL, tcHits, Bool.or_assoc]
theorem drawK_nil [Held] (acc : List Ent) : drawK P T ops acc [] s K = linesK ops acc (kk (K s)) := (rfl)
def gK (d : Option Nat) (want : Bool) (s : St) (A B : Nat → Prop) (N : Prop) : Prop :=
  match d with
  | some d => (match s.sl d with | .v (.bool b) => (b = want → A d) ∧ (b = !want → B d) | .v (.tuple _) => N | _ => False)
  | none => False
def gK1 (want : Bool) (p : PV) (A B N : Prop) : Prop := match p with | .v (.bool b) => (b = want → A) ∧ (b = !want → B) | .v (.tuple _) => N | _ => False
theorem gK_some (d : Nat) (want : Bool) (A B : Nat → Prop) (N : Prop) : gK (some d) want s A B N = gK1 want (s.sl d) (kk (A d)) (kk (B d)) N := (rfl)
theorem gK1_undef (want : Bool) (A B N : Prop) : gK1 want (.v undef) A B (kk N) = N := (rfl)
theorem gK1_true (b : Bool) (A B N : Prop) : gK1 true (.v (.bool b)) A B N = c1 b A B := (rfl)
theorem gK1_false (b : Bool) (A B N : Prop) : gK1 false (.v (.bool b)) A B N = d1 b A B := (rfl)
theorem opsK_cons [Held] {dst : Option Nat} {op : Op} {ty : TypeId} {pos : String} {af : Array Edge} {os : List Oper} :
    opsK P T ops (⟨dst, op, ty, pos, af, none⟩ :: os) s K = op2K P T s ⟨dst, op, ty, pos, af, none⟩ (fun s2 => opsK P T ops os s2 K) := (rfl)
theorem opsK_guard [Held] {dst : Option Nat} {op : Op} {ty : TypeId} {pos : String} {af : Array Edge} {j : Nat} {want : Bool} {os : List Oper} :
    opsK P T ops (⟨dst, op, ty, pos, af, some (j, want)⟩ :: os) s K = gK ((ops[j]?).bind (·.dst)) want s
      (kk fun d => op2K P T (s.put (some d) (.v (.bool want))) ⟨dst, op, ty, pos, af, some (j, want)⟩ (fun s2 => opsK P T ops os s2 K))
      (kk fun d => opsK P T ops os ((s.put (some d) (.v (.bool !want))).put dst (.v undef)) K) (kk (opsK P T ops os (s.put dst (.v undef)) K)) := (rfl)
theorem ops_at (l : List Oper) (j : Nat) : ((⟨l⟩ : Array Oper)[j]?) = l[j]? := by simp
theorem getElem?_zero {α : Type} (a : α) (l : List α) : (a :: l)[0]? = some a := (rfl)
theorem getElem?_succ {α : Type} (a : α) (l : List α) (i : Nat) : (a :: l)[i + 1]? = l[i]? := (rfl)
theorem some_bind (o : Oper) : (some o).bind (·.dst) = o.dst := (rfl)
theorem drawK_cons [Held] {dst : Option Nat} {op : Op} {ty : TypeId} {pos : String} {af : Array Edge} {os : List Oper} (acc : List Ent) :
    drawK P T ops acc (⟨dst, op, ty, pos, af, none⟩ :: os) s K = dK P T s ⟨dst, op, ty, pos, af, none⟩ (kk fun e s2 => drawK P T ops (e :: acc) os s2 K) := (rfl)
theorem drawK_guard [Held] {dst : Option Nat} {op : Op} {ty : TypeId} {pos : String} {af : Array Edge} {j : Nat} {want : Bool} {os : List Oper} (acc : List Ent) :
    drawK P T ops acc (⟨dst, op, ty, pos, af, some (j, want)⟩ :: os) s K = gK ((ops[j]?).bind (·.dst)) want s
      (kk fun d => dK P T (s.put (some d) (.v (.bool want))) ⟨dst, op, ty, pos, af, some (j, want)⟩ (kk fun e s2 => drawK P T ops (e :: acc) os s2 K))
      (kk fun d => drawK P T ops (⟨[], .ids []⟩ :: acc) os ((s.put (some d) (.v (.bool !want))).put dst (.v undef)) K) (kk (drawK P T ops (⟨[], .ids []⟩ :: acc) os (s.put dst (.v undef)) K)) := (rfl)
def idsG (l : List PV) (acc : List Nat) (Kn : List Nat → Prop) : Prop := Kn (acc ++ l.flatMap pids)
def idsP (l : List PV) (acc : List Nat) (Kn : List Nat → Prop) : Prop := Kn (acc ++ l.flatMap pid1)
section
variable (l : List PV) (acc : List Nat) (Kn : List Nat → Prop)
theorem idsG_nil : idsG [] acc (kk Kn) = Kn acc := by simp [idsG, kk]
theorem idsG_v (x : Value) : idsG (.v x :: l) acc (kk Kn) = idsG l acc (kk Kn) := (rfl)
theorem idsG_sl (fr : Bool) (z : Nat) (c : List PV) : idsG (.sl fr z c :: l) acc (kk Kn) = idsG l acc (kk Kn) := (rfl)
theorem idsG_eref (fr : Bool) (c : List PV) (o : Nat) : idsG (.eref fr c o :: l) acc (kk Kn) = idsG l acc (kk Kn) := (rfl)
theorem idsG_clo (f : FuncId) (c : List PV) : idsG (.clo f c :: l) acc (kk Kn) = idsG l acc (kk Kn) := (rfl)
theorem idsG_tup (c : List PV) : idsG (.tup c :: l) acc (kk Kn) = idsG l acc (kk Kn) := (rfl)
theorem idsG_junk : idsG (.junk :: l) acc (kk Kn) = idsG l acc (kk Kn) := (rfl)
theorem idsG_own (k v : Nat) : idsG (.own k v :: l) acc (kk Kn) = idsG l (acc ++ [k % 1000]) (kk Kn) := by simp [idsG, kk, pids, List.flatMap_cons]
theorem idsG_ref (k v o : Nat) : idsG (.ref k v o :: l) acc (kk Kn) = idsG l (acc ++ [k % 1000]) (kk Kn) := by simp [idsG, kk, pids, List.flatMap_cons]
theorem idsG_ag (c : List PV) : idsG (.ag c :: l) acc (kk Kn) = idsP c acc (kk fun acc' => idsG l acc' (kk Kn)) := by simp [idsG, idsP, kk, pids, List.flatMap_cons]
theorem idsP_nil : idsP [] acc (kk Kn) = Kn acc := by simp [idsP, kk]
theorem idsP_v (x : Value) : idsP (.v x :: l) acc (kk Kn) = idsP l acc (kk Kn) := (rfl)
theorem idsP_sl (fr : Bool) (z : Nat) (c : List PV) : idsP (.sl fr z c :: l) acc (kk Kn) = idsP l acc (kk Kn) := (rfl)
theorem idsP_eref (fr : Bool) (c : List PV) (o : Nat) : idsP (.eref fr c o :: l) acc (kk Kn) = idsP l acc (kk Kn) := (rfl)
theorem idsP_clo (f : FuncId) (c : List PV) : idsP (.clo f c :: l) acc (kk Kn) = idsP l acc (kk Kn) := (rfl)
theorem idsP_own (k v : Nat) : idsP (.own k v :: l) acc (kk Kn) = idsP l (acc ++ [k % 1000]) (kk Kn) := by simp [idsP, kk, pid1, List.flatMap_cons]
theorem idsP_ref (k v o : Nat) : idsP (.ref k v o :: l) acc (kk Kn) = idsP l (acc ++ [k % 1000]) (kk Kn) := by simp [idsP, kk, pid1, List.flatMap_cons]
end
def lidG (rw : Nat → Row) (n : Nat) (l : List PV) (acc : List Nat) (Kn : List Nat → Prop) : Prop := Kn (acc ++ l.flatMap (lids rw n))
def lidRow (r : Row) (rw : Nat → Row) (n : Nat) (acc : List Nat) (Kn : List Nat → Prop) : Prop := Kn (acc ++ (match r.kind with | .box _ c => c.flatMap (lids rw n) | _ => []))
def lidOwn (r : Row) (k : Nat) (acc : List Nat) (Kn : List Nat → Prop) : Prop := Kn (acc ++ (match r.kind with | .tab _ c => lidsT k c | _ => []))
section
variable (rw : Nat → Row) (n : Nat) (l : List PV) (acc : List Nat) (Kn : List Nat → Prop)
theorem lidG_nil : lidG rw n [] acc (kk Kn) = Kn acc := by simp [lidG, kk]
theorem lidG_zero : lidG rw 0 l acc (kk Kn) = Kn acc := by
  have : l.flatMap (lids rw 0) = [] := by simp [lids]
  unfold lidG kk
  rw [this, List.append_nil]
theorem lidG_v (x : Value) : lidG rw (n + 1) (.v x :: l) acc (kk Kn) = lidG rw (n + 1) l acc (kk Kn) := by simp [lidG, lids, List.flatMap_cons]
theorem lidG_sl (fr : Bool) (z : Nat) (c : List PV) : lidG rw (n + 1) (.sl fr z c :: l) acc (kk Kn) = lidG rw (n + 1) l acc (kk Kn) := by simp [lidG, lids, List.flatMap_cons]
theorem lidG_eref (fr : Bool) (c : List PV) (o : Nat) : lidG rw (n + 1) (.eref fr c o :: l) acc (kk Kn) = lidG rw (n + 1) l acc (kk Kn) := by simp [lidG, lids, List.flatMap_cons]
theorem lidG_junk : lidG rw (n + 1) (.junk :: l) acc (kk Kn) = lidG rw (n + 1) l acc (kk Kn) := by simp [lidG, lids, List.flatMap_cons]
theorem lidG_own (k v : Nat) : lidG rw (n + 1) (.own k v :: l) acc (kk Kn) = lidOwn (rw k) k (acc ++ [k % 1000]) (kk fun acc' => lidG rw (n + 1) l acc' (kk Kn)) := by
  simp only [lidG, lidOwn, kk, List.flatMap_cons]
  rw [lids]
  cases (rw k).kind <;> simp
theorem lidOwn_sli (k ver e z : Nat) (fz : Bool) (c : List PV) : lidOwn ⟨ver, .sli e z fz c⟩ k acc (kk Kn) = Kn acc := by simp [lidOwn, kk]
theorem lidOwn_nil (k ver : Nat) : lidOwn ⟨ver, .nil⟩ k acc (kk Kn) = Kn acc := by simp [lidOwn, kk]
theorem lidOwn_tab (k ver e : Nat) (c : List PV) : lidOwn ⟨ver, .tab e c⟩ k acc (kk Kn) = Kn (acc ++ lidsT k c) := (rfl)
theorem lidsT_cells [Held] (k : Nat) (p : List Nat) : lidsT k (cellsT k p) = [] := by
  unfold lidsT cellsT
  rw [List.flatMap_eq_nil_iff]
  intro q hq
  obtain ⟨j, _, rfl⟩ := List.mem_map.1 hq
  simp [sid_mod]
theorem lidsT_tab (rw' : Nat → Row) (k m : Nat) : lidsT k (tabCells rw' k 0 m) = [] := by
  unfold lidsT tabCells
  rw [List.flatMap_eq_nil_iff]
  intro q hq
  obtain ⟨j, _, rfl⟩ := List.mem_map.1 hq
  simp [leafId]
theorem lidG_ag (c : List PV) : lidG rw (n + 1) (.ag c :: l) acc (kk Kn) = lidG rw n c acc (kk fun acc' => lidG rw (n + 1) l acc' (kk Kn)) := by simp [lidG, lids, List.flatMap_cons, kk]
theorem lidG_clo (f : FuncId) (c : List PV) : lidG rw (n + 1) (.clo f c :: l) acc (kk Kn) = lidG rw n c acc (kk fun acc' => lidG rw (n + 1) l acc' (kk Kn)) := by simp [lidG, lids, List.flatMap_cons, kk]
theorem lidG_ref (k v o : Nat) : lidG rw (n + 1) (.ref k v o :: l) acc (kk Kn) = lidRow (rw k) rw n (acc ++ [k % 1000]) (kk fun acc' => lidG rw (n + 1) l acc' (kk Kn)) := by
  simp only [lidG, lidRow, kk, List.flatMap_cons]
  rw [lids]
  cases (rw k).kind <;> simp
theorem lidRow_box (ver : Nat) (t : TypeId) (c : List PV) : lidRow ⟨ver, .box t c⟩ rw n acc (kk Kn) = lidG rw n c acc (kk Kn) := (rfl)
theorem lidRow_sli (ver e z : Nat) (fz : Bool) (c : List PV) : lidRow ⟨ver, .sli e z fz c⟩ rw n acc (kk Kn) = Kn acc := by simp [lidRow, kk]
theorem lidRow_nil (ver : Nat) : lidRow ⟨ver, .nil⟩ rw n acc (kk Kn) = Kn acc := by simp [lidRow, kk]
end
section
variable {dst : Option Nat} {ty : TypeId} {pos : String} {af : Array Edge} {g : Option (Nat × Bool)}
theorem opK_move [Held] (x : Operand) : opK P T s ⟨dst, .move x, ty, pos, af, g⟩ K = evK (s.ev x) (kk fun p => K (s.put dst p)) := (rfl)
theorem opK_assign_tmp [Held] (t : Nat) : opK P T s ⟨dst, .assign (.tmp t), ty, pos, af, g⟩ K = evK (s.sl t) (kk fun p => K (s.put dst p)) := (rfl)
theorem opK_assign_int [Held] (k : IntKind) (n : Int) : opK P T s ⟨dst, .assign (.const (.int k n)), ty, pos, af, g⟩ K = K (s.put dst (.v (.int k n))) := (rfl)
theorem opK_assign_bool [Held] (b : Bool) : opK P T s ⟨dst, .assign (.const (.bool b)), ty, pos, af, g⟩ K = K (s.put dst (.v (.bool b))) := (rfl)
theorem opK_assign_string [Held] (b : ByteArray) : opK P T s ⟨dst, .assign (.const (.string b)), ty, pos, af, g⟩ K = K (s.put dst (.v (.string b))) := (rfl)
theorem opK_assign_agg [Held] (cs : List Value) : opK P T s ⟨dst, .assign (.const (.agg ⟨cs⟩)), ty, pos, af, g⟩ K = K (s.put dst (.ag (cs.map PV.v))) := (rfl)
def nilRow (T : Tab) (k : TK) : RK := match k with | .sli e => .sli e (T e).size false [] | _ => .nil
theorem nilRow_sli (e : TypeId) : nilRow T (.sli e) = .sli e (T e).size false [] := (rfl)
theorem opK_assign_nil [Held] (d : Nat) : opK P T s ⟨some d, .assign (.const (.slice none 0 0)), ty, pos, af, g⟩ K = K (newSt s d (nilRow T (T ty).k) fun v => .own d v) := (rfl)
theorem opK_pick [Held] (c x y : Operand) : opK P T s ⟨dst, .pick c x y, ty, pos, af, g⟩ K = condK (s.ev c) (kk (evK (s.ev x) (kk fun p => K (s.put dst p)))) (kk (evK (s.ev y) (kk fun p => K (s.put dst p)))) := (rfl)
theorem opK_bin [Held] (op : BinOp) (t t2 : TypeId) (x y : Operand) : opK P T s ⟨dst, .binOp op t x y t2, ty, pos, af, g⟩ K = binK T op t (s.ev x) (s.ev y) (kk fun p => K (s.put dst p)) := (rfl)
theorem opK_un [Held] (op : UnOp) (t : TypeId) (x : Operand) : opK P T s ⟨dst, .unOp op t x, ty, pos, af, g⟩ K = unK op (s.ev x) (kk fun p => K (s.put dst p)) := (rfl)
theorem opK_convert [Held] (a b : TypeId) (x : Operand) : opK P T s ⟨dst, .convert a b x, ty, pos, af, g⟩ K = convK T s.rw a b (s.ev x) (kk fun p => K (s.put dst p)) := (rfl)
theorem opK_load [Held] (t : TypeId) (x : Operand) : opK P T s ⟨dst, .load t x, ty, pos, af, g⟩ K = ptrK s.rw (s.ev x) (kk fun m c off => ldK T t m c off (kk fun p => K (s.put dst p))) := (rfl)
theorem opK_fieldAddr [Held] (t : TypeId) (x : Operand) (f : Nat) : opK P T s ⟨dst, .fieldAddr t x f, ty, pos, af, g⟩ K =
    fieldK T t f (kk fun o _ => isPtr (s.ev x) = true ∧ sureK s.rw (s.ev x) (kk (evK (shiftP (s.ev x) o) (kk fun p => K (s.put dst p))))) := (rfl)
def agK (p : PV) (K : List PV → Prop) : Prop := match p with | .ag c => K c | _ => False
theorem agK_ag (c : List PV) (Kc : List PV → Prop) : agK (.ag c) Kc = Kc c := (rfl)
def tupK (p : PV) (K : List PV → Prop) : Prop := match p with | .tup c => K c | _ => False
theorem tupK_tup (c : List PV) (Kc : List PV → Prop) : tupK (.tup c) Kc = Kc c := (rfl)
theorem opK_field [Held] (t : TypeId) (x : Operand) (f : Nat) : opK P T s ⟨dst, .field t x f, ty, pos, af, g⟩ K =
    agK (s.ev x) (kk fun c => fieldK T t f (kk fun o ft => ldK T ft .asis c o (kk fun p => K (s.put dst p)))) := by
  show fieldK T t f (fun o ft => (match s.ev x with | .ag c => ldK T ft .asis c o fun p => K (s.put dst p) | _ => False)) = _
  unfold fieldK agK kk
  cases s.ev x
  case ag c => rfl
  all_goals
    refine propext ⟨fun h => ?_, fun h => h.elim⟩
    obtain ⟨_, h⟩ := h
    split at h
    · split at h
      · exact h.2.elim
      · exact h.elim
    · exact h.elim
theorem opK_indexAddr [Held] (t : TypeId) (x i : Operand) : opK P T s ⟨dst, .indexAddr t x i, ty, pos, af, g⟩ K = indexAddrK T s.rw t (s.ev x) (s.ev i) (kk fun p => K (s.put dst p)) := (rfl)
def indexK (T : Tab) (t : TypeId) (x i : PV) (K : PV → Prop) : Prop := 0 < (T t).size ∧ (match (T t).k, x, i with
      | .str, .v (.string s), .v (.int _ n) => 0 ≤ n ∧ n.toNat < s.size ∧ K (.v (.int .u8 ((s.data.toList.getD n.toNat 0).toNat : Int)))
      | .arr len e, .ag c, .v (.int _ n) => 0 ≤ n ∧ n < len ∧ ldK T e .asis c (n.toNat * (T e).size) K
      | _, _, _ => False)
theorem opK_index [Held] (t : TypeId) (x i : Operand) : opK P T s ⟨dst, .index t x i, ty, pos, af, g⟩ K = indexK T t (s.ev x) (s.ev i) (kk fun p => K (s.put dst p)) := (rfl)
theorem opK_extract [Held] (x : Operand) (i : Nat) : opK P T s ⟨dst, .extract x i, ty, pos, af, g⟩ K = tupK (s.ev x) (kk fun ps => i < ps.length ∧ evK (ps.getD i .junk) (kk fun p => K (s.put dst p))) := (rfl)
theorem opK_nilCheck [Held] (x : Operand) : opK P T s ⟨dst, .nilCheck x, ty, pos, af, g⟩ K = sureK s.rw (s.ev x) (kk (evK (s.ev x) (kk fun p => K (s.put dst p)))) := (rfl)
theorem opK_makeFunc [Held] (f : FuncId) (caps : Array Operand) : opK P T s ⟨dst, .makeFunc (.func f) #[] caps, ty, pos, af, g⟩ K = K (s.put dst (.clo f (caps.toList.map s.ev))) := by
  show (#[] = (#[] : Array Operand) ∧ K (s.put dst (.clo f (caps.toList.map s.ev)))) = _
  simp
theorem opK_len [Held] (x : Operand) (t : TypeId) : opK P T s ⟨dst, .call ⟨.builtin .len, #[x], #[t]⟩, ty, pos, af, g⟩ K = lenK T s.rw t (s.ev x) (kk fun p => K (s.put dst p)) := (rfl)
theorem opK_max [Held] (x y : Operand) (ts : Array TypeId) : opK P T s ⟨dst, .call ⟨.builtin .max, #[x, y], ts⟩, ty, pos, af, g⟩ K = minmaxK true (s.ev x) (s.ev y) (kk fun p => K (s.put dst p)) := (rfl)
theorem opK_min [Held] (x y : Operand) (ts : Array TypeId) : opK P T s ⟨dst, .call ⟨.builtin .min, #[x, y], ts⟩, ty, pos, af, g⟩ K = minmaxK false (s.ev x) (s.ev y) (kk fun p => K (s.put dst p)) := (rfl)
theorem opK_append [Held] (d : Nat) (x y : Operand) (t t2 : TypeId) : opK P T s ⟨some d, .call ⟨.builtin .append, #[x, y], #[t, t2]⟩, ty, pos, af, g⟩ K = appendK T s d t t2 (s.ev x) (s.ev y) (kk K) := (rfl)
def cloK (p : PV) (K : FuncId → List PV → Prop) : Prop := match p with | .clo g caps => K g caps | _ => False
theorem cloK_clo (g : FuncId) (c : List PV) (Kc : FuncId → List PV → Prop) : cloK (.clo g c) Kc = Kc g c := (rfl)
def askK [Held] (P : Program) (f : FuncId) (args : List PV) (K : RV → Prop) (M : Prop) : Prop := (∃ rv, AC P f args rv ∧ K rv) ∨ M
theorem askK_of [Held] {f : FuncId} {args : List PV} {Kr : RV → Prop} {u : Dm Kr} {rv : RV} {M : Prop} (h : AC P f args rv) (hk : Kr rv) : askK P f args (kk Kr u) M := .inl ⟨rv, h, hk⟩
def askR [Held] (P : Program) (f : FuncId) (args raw : List PV) (dst : Option Nat) (s : St) (K : St → Prop) : Prop := askM P s f raw dst K ∨ askT P s f raw dst K ∨ askWk P s f args dst K ∨ askG P s f raw dst K
theorem askM_of [Held] {f : FuncId} {args raw lent : List PV} {ins : List LR} {outs : List (List PV)} {x : Value} {Ka : RV → Prop} {dst : Option Nat} {us : Dm s} {u : Dm K} (h : AM P f args ins outs x) (js : List (Nat × Nat))
    (hg : GiveL js raw args) (hh : HeldL s.rw js ins) (hn : (js.map (·.1)).Nodup) (hk : K ((s.wrote js ins outs).put dst (.v x))) : askK P f lent Ka (askR P f lent raw dst (kk s us) (kk K u)) := .inr (.inl ⟨js, ins, args, outs, x, h, hg, hh, hn, hk⟩)
theorem askG_of [Held] {f : FuncId} {args raw lent : List PV} {R0 : Nat → Row} {post : (Nat → Row) → PV → Prop} {Ka : RV → Prop} {dst : Option Nat} {us : Dm s} {u : Dm K} (h : AG P f args R0 post) (rho : Nat → Option Nat) (Ln : Nat → Prop) (hl : GvL rho Ln R0 s.rw args raw) (hg : Give rho Ln R0 s.rw)
    (hk : ∀ R1 p, post R1 p → ∃ (rho1 : Nat → Option Nat) (nv : Nat → Nat) (nl : Bool), Back rho rho1 R1 nv nl Ln R0 s.rw ∧ ∀ S : St, After s S dst rho1 nv nl R1 p → K S) : askK P f lent Ka (askR P f lent raw dst (kk s us) (kk K u)) :=
  .inr (.inr (.inr (.inr ⟨args, R0, post, rho, Ln, h, hl, hg, hk⟩)))
def lends (s : St) (l : List Operand) : List PV := l.map fun x => lend s.rw deep (s.ev x)
theorem lends_nil : lends s [] = [] := (rfl)
theorem lends_cons (x : Operand) (l : List Operand) : lends s (x :: l) = lend s.rw 3 (s.ev x) :: lends s l := (rfl)
def raws (s : St) (l : List Operand) : List PV := l.map s.ev
theorem raws_nil : raws s [] = [] := (rfl)
theorem raws_cons (x : Operand) (l : List Operand) : raws s (x :: l) = s.ev x :: raws s l := (rfl)
theorem callN_eq [Held] (f : Operand) (args : List Operand) (Kr : RV → Prop) : callK P s.rw s.ev f ⟨args⟩ Kr = cloK (s.ev f) (kk fun g caps => askK P g (lends s args ++ caps.map (lend s.rw 3)) (kk Kr) False) := by
  unfold callK cloK askK
  cases s.ev f <;> first | rfl | simp [kk, lends, deep]
theorem callV_eq [Held] (f : Operand) (args : List Operand) (Kr : RV → Prop) (dst : Option Nat) : ((callK P s.rw s.ev f ⟨args⟩ Kr ∨ callM P s f ⟨args⟩ dst K) ∨ (match s.ev f with
      | .clo g caps => askT P s g (args.map s.ev ++ caps) dst K ∨ askWk P s g ((args.map fun x => lend s.rw deep (s.ev x)) ++ caps.map (lend s.rw deep)) dst K ∨ askG P s g (args.map s.ev ++ caps) dst K
      | _ => False)) =
    cloK (s.ev f) (kk fun g caps => askK P g (lends s args ++ caps.map (lend s.rw 3)) (kk Kr) (askR P g (lends s args ++ caps.map (lend s.rw 3)) (raws s args ++ caps) dst (kk s) (kk K))) := by
  unfold callK callM cloK
  cases s.ev f <;> first | (simp; done) | skip
  unfold kk askK askR
  exact propext or_assoc
theorem op2_callV [Held] (d : Nat) (f : Operand) (args : List Operand) (ts : Array TypeId) : op2K P T s ⟨some d, .call ⟨.value f, ⟨args⟩, ts⟩, ty, pos, af, g⟩ K =
    cloK (s.ev f) (kk fun g caps => askK P g (lends s args ++ caps.map (lend s.rw 3)) (kk fun rv => K (adoptSt s d rv)) (askR P g (lends s args ++ caps.map (lend s.rw 3)) (raws s args ++ caps) (some d) (kk s) (kk K))) := callV_eq (P := P) f args _ _
theorem op2_callV_none [Held] (f : Operand) (args : List Operand) (ts : Array TypeId) : op2K P T s ⟨none, .call ⟨.value f, ⟨args⟩, ts⟩, ty, pos, af, g⟩ K =
    cloK (s.ev f) (kk fun g caps => askK P g (lends s args ++ caps.map (lend s.rw 3)) (kk fun _ => K s) (askR P g (lends s args ++ caps.map (lend s.rw 3)) (raws s args ++ caps) none (kk s) (kk K))) := callV_eq (P := P) f args _ _
theorem op2_callB [Held] (b : Builtin) (args : Array Operand) (ts : Array TypeId) (h : (match b with | .append => false | _ => true) = true) : op2K P T s ⟨dst, .call ⟨.builtin b, args, ts⟩, ty, pos, af, g⟩ K = opK P T s ⟨dst, .call ⟨.builtin b, args, ts⟩, ty, pos, af, g⟩ K := by
  cases b <;> first | rfl | cases h
theorem opK_alloc [Held] (d : Nat) (t : TypeId) : opK P T s ⟨some d, .alloc t, ty, pos, af, g⟩ K = (0 < (T t).size ∧ K (newSt s d (.box t ((T t).zero.map PV.v)) fun v => .ref d v 0)) := (rfl)
theorem opK_box [Held] (d : Nat) (t : TypeId) (x : Operand) : opK P T s ⟨some d, .box t x, ty, pos, af, g⟩ K = cellsK s.rw (s.ev x) (kk fun c => K (newSt s d (.box t c) fun v => .ref d v 0)) := (rfl)
def evs (s : St) (l : List (Nat × Operand)) : List PV := l.map fun x => s.ev x.2
theorem evs_nil : evs s [] = [] := (rfl)
theorem evs_cons (n : Nat) (x : Operand) (l : List (Nat × Operand)) : evs s ((n, x) :: l) = s.ev x :: evs s l := (rfl)
def buildD (T : Tab) (s : St) (d : Nat) (kd : TK) (z n : Nat) (parts : List (Nat × Operand)) (K : St → Prop) : Prop :=
  0 < z ∧ match kd with
  | .sli e => 0 < (T e).size ∧ n = parts.length ∧ idxOk 0 parts = true ∧ n * (T e).size ≤ 16777216 ∧
      pureL s.rw (T e).size (evs s parts) fun c f => d ∉ f ∧ K (((s.freeze f).row d ⟨(s.rw d).ver + 1, .sli e (T e).size false c⟩).put (some d) (.own d ((s.rw d).ver + 1)))
  | _ => False
theorem opK_buildSlice [Held] (d : Nat) (t : TypeId) (n : Nat) (parts : List (Nat × Operand)) : opK P T s ⟨some d, .buildSlice t n ⟨parts⟩, ty, pos, af, g⟩ K = buildD T s d (T t).k (T t).size n parts (kk K) := (rfl)
def lit (c : List PV) : List PV := c
def litI (a : List Int) (c : List PV) : List PV := iL a ++ c
def litS (a : List ByteArray) (c : List PV) : List PV := sL a ++ c
def litB (a : List Bool) (c : List PV) : List PV := bL a ++ c
def litL (a : List (List Int)) (c : List PV) : List PV := iLL a ++ c
theorem lit_nil : lit [] = [] := (rfl)
theorem lit_int (n : Int) (l : List PV) : lit (.v (.int .i64 n) :: l) = litI [n] l := (rfl)
theorem lit_str (n : ByteArray) (l : List PV) : lit (.v (.string n) :: l) = litS [n] l := (rfl)
theorem lit_bool (n : Bool) (l : List PV) : lit (.v (.bool n) :: l) = litB [n] l := (rfl)
theorem lit_sl (n : List Int) (l : List PV) : lit (.sl false 1 (iL n) :: l) = litL [n] l := (rfl)
theorem litI_nil (a : List Int) : litI a [] = iL a := List.append_nil _
theorem litS_nil (a : List ByteArray) : litS a [] = sL a := List.append_nil _
theorem litB_nil (a : List Bool) : litB a [] = bL a := List.append_nil _
theorem litL_nil (a : List (List Int)) : litL a [] = iLL a := List.append_nil _
theorem litI_cons (a : List Int) (n : Int) (l : List PV) : litI a (.v (.int .i64 n) :: l) = litI (a ++ [n]) l := by simp [litI, iL]
theorem litS_cons (a : List ByteArray) (n : ByteArray) (l : List PV) : litS a (.v (.string n) :: l) = litS (a ++ [n]) l := by simp [litS, sL]
theorem litB_cons (a : List Bool) (n : Bool) (l : List PV) : litB a (.v (.bool n) :: l) = litB (a ++ [n]) l := by simp [litB, bL]
theorem litL_cons (a : List (List Int)) (n : List Int) (l : List PV) : litL a (.sl false 1 (iL n) :: l) = litL (a ++ [n]) l := by simp [litL, iLL]
theorem buildD_sli (d e n : Nat) (parts : List (Nat × Operand)) (h2 : (T e).size = 1) :
    buildD T s d (.sli e) 1 n parts K = (n = parts.length ∧ idxOk 0 parts = true ∧ n ≤ 16777216 ∧ pureL s.rw 1 (evs s parts) (kk fun c f => d ∉ f ∧ K (((s.freeze f).row d ⟨(s.rw d).ver + 1, .sli e 1 false (lit c)⟩).put (some d) (.own d ((s.rw d).ver + 1))))) := by
  unfold buildD kk
  simp only [h2, Nat.one_pos, true_and, Nat.mul_one]
  rfl
theorem idxOk_nil (i : Nat) : idxOk i [] = true := (rfl)
theorem idxOk_cons (i j : Nat) (x : Operand) (l : List (Nat × Operand)) : idxOk i ((j, x) :: l) = (j == i && idxOk (i + 1) l) := (rfl)
theorem pureL_nil (rw : Nat → Row) (es : Nat) (Kp : List PV → List Nat → Prop) : pureL rw es [] (kk Kp) = Kp [] [] := (rfl)
theorem pureL_cons (rw : Nat → Row) (es : Nat) (p : PV) (ps : List PV) (Kp : List PV → List Nat → Prop) : pureL rw es (p :: ps) (kk Kp) = pureK rw p (kk fun c f => c.length = es ∧ pureL rw es ps (kk fun cs fs => Kp (c ++ cs) (f ++ fs))) := (rfl)
theorem opK_store [Held] (t : TypeId) (ad x : Operand) : opK P T s ⟨none, .store t ad x, ty, pos, af, g⟩ K = storeK T s t (s.ev ad) (s.ev x) (kk K) := by
  show ((none : Option Nat) = none ∧ storeK T s t (s.ev ad) (s.ev x) K) = _
  simp [kk]
def makeK (T : Tab) (t : TypeId) (l c : PV) (K : TypeId → List PV → Prop) : Prop :=
  match (T t).k, l, c with
  | .sli e, .v (.int _ nl), .v (.int _ nc) => 0 < (T t).size ∧ (T e).size = 1 ∧ (match (T e).zero with
      | [z] => 0 ≤ nl ∧ nl ≤ nc ∧ ((T e).bytes : Int) * nc ≤ 281474976710656 ∧ nc ≤ 9223372036854775807 ∧ K e (List.replicate nl.toNat (.v z))
      | _ => False)
  | _, _, _ => False
theorem opK_make [Held] (d : Nat) (t : TypeId) (l c : Operand) : opK P T s ⟨some d, .makeSlice t l c, ty, pos, af, g⟩ K = makeK T t (s.ev l) (s.ev c) (kk fun e cs => K (newSt s d (.sli e 1 false cs) fun v => .own d v)) := by
  unfold makeK kk
  simp only [opK]
  generalize (T t).k = a
  generalize s.ev l = b
  generalize s.ev c = e
  cases a <;> first | rfl | skip
  cases b <;> first | rfl | skip
  rename_i v
  cases v <;> first | rfl | skip
  cases e <;> first | rfl | skip
  rename_i v
  cases v <;> rfl
def makeD (T : Tab) (kd : TK) (z : Nat) (l c : PV) (K : TypeId → List PV → Prop) : Prop :=
  match kd, l, c with
  | .sli e, .v (.int _ nl), .v (.int _ nc) => 0 < z ∧ (T e).size = 1 ∧ (match (T e).zero with
      | [z] => 0 ≤ nl ∧ nl ≤ nc ∧ ((T e).bytes : Int) * nc ≤ 281474976710656 ∧ nc ≤ 9223372036854775807 ∧ K e (List.replicate nl.toNat (.v z))
      | _ => False)
  | _, _, _ => False
theorem make_eq (t : TypeId) (l c : PV) (Kc : TypeId → List PV → Prop) : makeK T t l c Kc = makeD T (T t).k (T t).size l c Kc := (rfl)
def makeZ (zs : List Value) (K : Value → Prop) : Prop := match zs with | [z] => K z | _ => False
theorem makeZ_one (z : Value) (Kz : Value → Prop) : makeZ [z] Kz = Kz z := (rfl)
theorem makeD_sli {e : TypeId} {k1 k2 : IntKind} {nl nc : Int} {Kc : TypeId → List PV → Prop} (h2 : (T e).size = 1) :
    makeD T (.sli e) 1 (.v (.int k1 nl)) (.v (.int k2 nc)) Kc = makeZ (T e).zero (kk fun z => 0 ≤ nl ∧ nl ≤ nc ∧ ((T e).bytes : Int) * nc ≤ 281474976710656 ∧ nc ≤ 9223372036854775807 ∧ Kc e (List.replicate nl.toNat (.v z))) := by
  unfold makeD makeZ kk
  simp only [h2, Nat.one_pos, true_and]
def sliK (T : Tab) (s : St) (t : TypeId) (x : PV) (lo hi mx : Option Operand) (K : List Nat → PV → Prop) : Prop :=
  match x with
  | .own k ver => (match (s.rw k).kind with
      | .sli _ _ false _ => sliceK T (s.freeze [k]).rw s.ev t (.own k ver) lo hi mx (K [k])
      | _ => sliceK T s.rw s.ev t (.own k ver) lo hi mx (K []))
  | x => sliceK T s.rw s.ev t x lo hi mx (K [])
theorem opK_slice [Held] (t : TypeId) (x : Operand) (lo hi mx : Option Operand) : opK P T s ⟨dst, .slice t x lo hi mx, ty, pos, af, g⟩ K = sliK T s t (s.ev x) lo hi mx (kk fun fz p => K ((s.freeze fz).put dst p)) := by
  have e : s.freeze [] = s := St.freeze_nil s
  have h : ∀ q, s.ev x = q → (match q with
    | .own k _ => (match (s.rw k).kind with
        | .sli _ _ false _ => valK T (s.freeze [k]).rw s.ev (.slice t x lo hi mx) fun p => K ((s.freeze [k]).put dst p)
        | _ => valK T s.rw s.ev (.slice t x lo hi mx) fun p => K (s.put dst p))
    | _ => valK T s.rw s.ev (.slice t x lo hi mx) fun p => K (s.put dst p)) = sliK T s t q lo hi mx fun fz p => K ((s.freeze fz).put dst p) := by
    intro q hq
    unfold sliK
    cases q <;> simp only [valK, hq, e]
  exact h _ rfl
end
def prts (s : St) (l : List (Nat × Operand)) : List (Nat × PV) := l.map fun x => (x.1, s.ev x.2)
theorem prts_nil : prts s [] = [] := (rfl)
theorem prts_cons (n : Nat) (x : Operand) (l : List (Nat × Operand)) : prts s ((n, x) :: l) = (n, s.ev x) :: prts s l := (rfl)
def allPos (T : Tab) : List (Nat × TypeId) → Prop | [] => True | x :: fs => 0 < (T x.2).size ∧ allPos T fs
theorem allPos_nil : allPos T [] = True := (rfl)
theorem allPos_cons (o : Nat) (t : TypeId) (fs : List (Nat × TypeId)) : allPos T ((o, t) :: fs) = (0 < (T t).size ∧ allPos T fs) := (rfl)
theorem allPos_eq : ∀ fs : List (Nat × TypeId), (∀ x ∈ fs, 0 < (T x.2).size) = allPos T fs := by
  intro fs
  induction fs with
  | nil => simp [allPos]
  | cons x fs ih => rw [allPos, ← ih]; simp
def bldD (T : Tab) (rw : Nat → Row) (kd : TK) (z : Nat) (zs : List Value) (pp : List (Nat × PV)) (K : PV → Prop) : Prop :=
  0 < z ∧ match kd with
  | .struct fs => allPos T fs ∧ fillK T rw fs pp (zs.map PV.v) fun c => K (.ag c)
  | _ => False
theorem bld_eq [Held] (t : TypeId) (parts : List (Nat × Operand)) (Kp : PV → Prop) : buildVK T s.rw s.ev t ⟨parts⟩ Kp = bldD T s.rw (T t).k (T t).size (T t).zero (prts s parts) (kk Kp) := by
  unfold buildVK bldD kk
  cases (T t).k <;> first | rfl | skip
  simp only [allPos_eq]
  rfl
theorem bldD_struct (rw : Nat → Row) (fs : List (Nat × TypeId)) (z : Nat) (zs : List Value) (pp : List (Nat × PV)) (Kp : PV → Prop) :
    bldD T rw (.struct fs) z zs pp (kk Kp) = (0 < z ∧ allPos T fs ∧ fillK T rw fs pp (zs.map PV.v) (kk fun c => Kp (.ag c))) := (rfl)
theorem fillK_nil (rw : Nat → Row) (fs : List (Nat × TypeId)) (c : List PV) (Kc : List PV → Prop) : fillK T rw fs [] c (kk Kc) = Kc c := (rfl)
def fil1 (T : Tab) (rw : Nat → Row) (fs : List (Nat × TypeId)) (x : Option (Nat × TypeId)) (p : PV) (rest : List (Nat × PV)) (cells : List PV) (Kc : List PV → Prop) : Prop :=
  match x with
  | some (off, ft) => cellsK rw p fun c => c.length = (T ft).size ∧ off + c.length ≤ cells.length ∧ fillK T rw fs rest (spl cells off c) Kc
  | none => False
theorem fillK_cons (rw : Nat → Row) (fs : List (Nat × TypeId)) (i : Nat) (p : PV) (rest : List (Nat × PV)) (c : List PV) (Kc : List PV → Prop) : fillK T rw fs ((i, p) :: rest) c (kk Kc) = fil1 T rw fs fs[i]? p rest c (kk Kc) := by
  unfold fil1 kk
  rw [fillK]
  cases fs[i]? <;> rfl
theorem fil1_some (rw : Nat → Row) (fs : List (Nat × TypeId)) (off : Nat) (ft : TypeId) (p : PV) (rest : List (Nat × PV)) (cells : List PV) (Kc : List PV → Prop) :
    fil1 T rw fs (some (off, ft)) p rest cells (kk Kc) = cellsK rw p (kk fun c => c.length = (T ft).size ∧ off + c.length ≤ cells.length ∧ fillK T rw fs rest (spl cells off c) (kk Kc)) := (rfl)
section
variable {dst : Option Nat} {ty : TypeId} {pos : String} {af : Array Edge} {g : Option (Nat × Bool)}
theorem opK_build [Held] (t : TypeId) (parts : List (Nat × Operand)) : opK P T s ⟨dst, .build t ⟨parts⟩, ty, pos, af, g⟩ K = bldD T s.rw (T t).k (T t).size (T t).zero (prts s parts) (kk fun p => K (s.put dst p)) := by
  rw [← bld_eq]; rfl
def ncD (rw : Nat → Row) (kd : TK) (z : Nat) (x : PV) (Kb : Bool → Prop) : Prop := 0 < z ∧ match kd with | .sli _ => slK rw x fun _ _ c => Kb false ∧ (c = [] → Kb true) | _ => False
theorem op2_eql_nil [Held] (t t2 : TypeId) (x : Operand) : op2K P T s ⟨dst, .binOp .eql t x (.const (.slice none 0 0)) t2, ty, pos, af, g⟩ K = ncD s.rw (T t).k (T t).size (s.ev x) (kk fun b => K (s.put dst (.v (.bool b)))) := (rfl)
theorem op2_neq_nil [Held] (t t2 : TypeId) (x : Operand) : op2K P T s ⟨dst, .binOp .neq t x (.const (.slice none 0 0)) t2, ty, pos, af, g⟩ K = ncD s.rw (T t).k (T t).size (s.ev x) (kk fun b => K (s.put dst (.v (.bool !b)))) := (rfl)
theorem ncD_sl (rw : Nat → Row) (e z z' : Nat) (fr : Bool) (c : List PV) (Kb : Bool → Prop) : ncD rw (.sli e) z (.sl fr z' c) (kk Kb) = (0 < z ∧ Kb false ∧ (c = [] → Kb true)) := (rfl)
def ncRow (r : Row) (ver : Nat) (Kb : Bool → Prop) : Prop := r.ver = ver ∧ match r.kind with | .nil => Kb false ∧ Kb true | .sli _ _ _ c => Kb false ∧ (c = [] → Kb true) | _ => False
theorem ncD_own (rw : Nat → Row) (e z j v : Nat) (Kb : Bool → Prop) : ncD rw (.sli e) z (.own j v) (kk Kb) = (0 < z ∧ ncRow (rw j) v (kk Kb)) := by
  unfold ncD ncRow kk slK
  dsimp only
  cases (rw j).kind <;> simp
theorem ncRow_sli (ver e sz : Nat) (fz : Bool) (c : List PV) (Kb : Bool → Prop) : ncRow ⟨ver, .sli e sz fz c⟩ ver (kk Kb) = (Kb false ∧ (c = [] → Kb true)) := by simp [ncRow, kk]
theorem ncRow_nil (ver : Nat) (Kb : Bool → Prop) : ncRow ⟨ver, .nil⟩ ver (kk Kb) = (Kb false ∧ Kb true) := by simp [ncRow, kk]
theorem op2_move [Held] (x : Operand) : op2K P T s ⟨dst, .move x, ty, pos, af, g⟩ K = opK P T s ⟨dst, .move x, ty, pos, af, g⟩ K := (rfl)
theorem op2_assign [Held] (x : Operand) : op2K P T s ⟨dst, .assign x, ty, pos, af, g⟩ K = opK P T s ⟨dst, .assign x, ty, pos, af, g⟩ K := (rfl)
theorem op2_pick [Held] (c x y : Operand) : op2K P T s ⟨dst, .pick c x y, ty, pos, af, g⟩ K = opK P T s ⟨dst, .pick c x y, ty, pos, af, g⟩ K := (rfl)
theorem op2_un [Held] (op : UnOp) (t : TypeId) (x : Operand) : op2K P T s ⟨dst, .unOp op t x, ty, pos, af, g⟩ K = opK P T s ⟨dst, .unOp op t x, ty, pos, af, g⟩ K := (rfl)
theorem op2_convert [Held] (a b : TypeId) (x : Operand) : op2K P T s ⟨dst, .convert a b x, ty, pos, af, g⟩ K = opK P T s ⟨dst, .convert a b x, ty, pos, af, g⟩ K := (rfl)
theorem op2_load [Held] (t : TypeId) (x : Operand) : op2K P T s ⟨dst, .load t x, ty, pos, af, g⟩ K = opK P T s ⟨dst, .load t x, ty, pos, af, g⟩ K := (rfl)
theorem op2_fieldAddr [Held] (t : TypeId) (x : Operand) (f : Nat) : op2K P T s ⟨dst, .fieldAddr t x f, ty, pos, af, g⟩ K = opK P T s ⟨dst, .fieldAddr t x f, ty, pos, af, g⟩ K := (rfl)
theorem op2_field [Held] (t : TypeId) (x : Operand) (f : Nat) : op2K P T s ⟨dst, .field t x f, ty, pos, af, g⟩ K = opK P T s ⟨dst, .field t x f, ty, pos, af, g⟩ K := (rfl)
theorem op2_indexAddr [Held] (t : TypeId) (x i : Operand) : op2K P T s ⟨dst, .indexAddr t x i, ty, pos, af, g⟩ K = opK P T s ⟨dst, .indexAddr t x i, ty, pos, af, g⟩ K := (rfl)
theorem op2_index [Held] (t : TypeId) (x i : Operand) : op2K P T s ⟨dst, .index t x i, ty, pos, af, g⟩ K = opK P T s ⟨dst, .index t x i, ty, pos, af, g⟩ K := (rfl)
theorem op2_extract [Held] (x : Operand) (i : Nat) : op2K P T s ⟨dst, .extract x i, ty, pos, af, g⟩ K = opK P T s ⟨dst, .extract x i, ty, pos, af, g⟩ K := (rfl)
theorem op2_nilCheck [Held] (x : Operand) : op2K P T s ⟨dst, .nilCheck x, ty, pos, af, g⟩ K = opK P T s ⟨dst, .nilCheck x, ty, pos, af, g⟩ K := (rfl)
theorem op2_makeFunc [Held] (f : Fn) (fi caps : Array Operand) : op2K P T s ⟨dst, .makeFunc f fi caps, ty, pos, af, g⟩ K = opK P T s ⟨dst, .makeFunc f fi caps, ty, pos, af, g⟩ K := (rfl)
theorem op2_alloc [Held] (t : TypeId) : op2K P T s ⟨dst, .alloc t, ty, pos, af, g⟩ K = opK P T s ⟨dst, .alloc t, ty, pos, af, g⟩ K := (rfl)
theorem op2_box [Held] (t : TypeId) (x : Operand) : op2K P T s ⟨dst, .box t x, ty, pos, af, g⟩ K = opK P T s ⟨dst, .box t x, ty, pos, af, g⟩ K := (rfl)
theorem op2_build0 [Held] (t : TypeId) (n : Nat) : op2K P T s ⟨dst, .buildSlice t n ⟨[]⟩, ty, pos, af, g⟩ K = opK P T s ⟨dst, .buildSlice t n ⟨[]⟩, ty, pos, af, g⟩ K := (rfl)
theorem op2_build2 [Held] (t : TypeId) (n : Nat) (p q : Nat × Operand) (l : List (Nat × Operand)) : op2K P T s ⟨dst, .buildSlice t n ⟨p :: q :: l⟩, ty, pos, af, g⟩ K = opK P T s ⟨dst, .buildSlice t n ⟨p :: q :: l⟩, ty, pos, af, g⟩ K := (rfl)
def bld1 (T : Tab) (s : St) (d : Nat) (t : TypeId) (n i : Nat) (p : PV) (Kt : St → Prop) (A : Prop) : Prop :=
  match p with
  | .own k ver => (match (s.rw k).kind with | .tab _ _ => buildT T s d t n i k ver Kt | .sli _ _ _ _ => A ∨ buildT T s d t n i k ver Kt | _ => A)
  | _ => A
theorem op2_build1 [Held] (d : Nat) (t : TypeId) (n i : Nat) (x : Operand) : op2K P T s ⟨some d, .buildSlice t n ⟨[(i, x)]⟩, ty, pos, af, g⟩ K =
    bld1 T s d t n i (s.ev x) (kk K) (kk (opK P T s ⟨some d, .buildSlice t n ⟨[(i, x)]⟩, ty, pos, af, g⟩ K)) := by
  unfold op2K bld1 kk
  dsimp only
  cases s.ev x <;> rfl
theorem bld1_v (d : Nat) (t : TypeId) (n i : Nat) (x : Value) (A : Prop) : bld1 T s d t n i (.v x) (kk K) (kk A) = A := (rfl)
theorem bld1_sl (d : Nat) (t : TypeId) (n i : Nat) (fr : Bool) (z : Nat) (c : List PV) (A : Prop) : bld1 T s d t n i (.sl fr z c) (kk K) (kk A) = A := (rfl)
theorem bld1_ag (d : Nat) (t : TypeId) (n i : Nat) (c : List PV) (A : Prop) : bld1 T s d t n i (.ag c) (kk K) (kk A) = A := (rfl)
theorem bld1_eref (d : Nat) (t : TypeId) (n i : Nat) (fr : Bool) (c : List PV) (o : Nat) (A : Prop) : bld1 T s d t n i (.eref fr c o) (kk K) (kk A) = A := (rfl)
theorem bld1_ref (d : Nat) (t : TypeId) (n i : Nat) (j v o : Nat) (A : Prop) : bld1 T s d t n i (.ref j v o) (kk K) (kk A) = A := (rfl)
def bldRow (T : Tab) (r : Row) (s : St) (d : Nat) (t : TypeId) (n i k ver : Nat) (Kt : St → Prop) (A : Prop) : Prop := match r.kind with | .tab _ _ => buildT T s d t n i k ver Kt | .sli _ _ _ _ => A ∨ buildT T s d t n i k ver Kt | _ => A
theorem bld1_own (d : Nat) (t : TypeId) (n i k ver : Nat) (A : Prop) : bld1 T s d t n i (.own k ver) (kk K) (kk A) = bldRow T (s.rw k) s d t n i k ver (kk K) (kk A) := (rfl)
theorem bldRow_nil (d : Nat) (t : TypeId) (n i k ver v : Nat) (A : Prop) : bldRow T ⟨v, .nil⟩ s d t n i k ver (kk K) (kk A) = A := (rfl)
def buildTD (T : Tab) (s : St) (d : Nat) (kd : TK) (z n i k ver : Nat) (r : Row) (K : St → Prop) : Prop := 0 < z ∧ n = 1 ∧ i = 0 ∧ r.ver = ver ∧ r.kind.slice = true ∧ d ≠ k ∧ (match kd with
    | .sli e => (T e).size = 1 ∧ K ((s.row d ⟨(s.rw d).ver + 1, .tab e [.own k ver]⟩).put (some d) (.own d ((s.rw d).ver + 1)))
    | _ => False)
def orB (A B : Prop) : Prop := A ∨ B
theorem orB_r {A B : Prop} {u : Dm A} {v : Dm B} (h : B) : orB (kk A u) (kk B v) := .inr h
theorem bldRow_sli (d : Nat) (t : TypeId) (n i k ver v e z : Nat) (fz : Bool) (c : List PV) (A : Prop) : bldRow T ⟨v, .sli e z fz c⟩ s d t n i k ver (kk K) (kk A) = orB (kk A) (kk (buildTD T s d (T t).k (T t).size n i k ver (s.rw k) K)) := (rfl)
theorem buildTD_row (d e k ver e' z : Nat) (fz : Bool) (c : List PV) (h : (T e).size = 1) : buildTD T s d (.sli e) 1 1 0 k ver ⟨ver, .sli e' z fz c⟩ K = (d ≠ k ∧ K ((s.row d ⟨(s.rw d).ver + 1, .tab e [.own k ver]⟩).put (some d) (.own d ((s.rw d).ver + 1)))) := by
  simp only [buildTD, h, RK.slice, Nat.one_pos, true_and]
theorem bldRow_tab (d : Nat) (t : TypeId) (n i k ver v e : Nat) (c : List PV) (A : Prop) : bldRow T ⟨v, .tab e c⟩ s d t n i k ver (kk K) (kk A) = buildTD T s d (T t).k (T t).size n i k ver (s.rw k) K := (rfl)
theorem buildTD_sli (d e k ver e' : Nat) (c : List PV) (h : (T e).size = 1) : buildTD T s d (.sli e) 1 1 0 k ver ⟨ver, .tab e' c⟩ K = (d ≠ k ∧ K ((s.row d ⟨(s.rw d).ver + 1, .tab e [.own k ver]⟩).put (some d) (.own d ((s.rw d).ver + 1)))) := by
  simp only [buildTD, h, RK.slice, Nat.one_pos, true_and]
def app1 (T : Tab) (s : St) (d : Nat) (t t2 : TypeId) (x : PV) (y : PV) (Kt : St → Prop) (A : Prop) : Prop :=
  match x with
  | .own k ver => (match (s.rw k).kind with | .tab e c => appT T s d t t2 k ver e c y Kt | _ => A)
  | _ => A
def app0 (T : Tab) (s : St) (d : Nat) (t t2 : TypeId) (x : PV) (y : PV) (Kt : St → Prop) (A : Prop) : Prop :=
  match y with
  | .v (.string b) => appStrK T s d t t2 x b Kt
  | _ => app1 T s d t t2 x y Kt A
theorem op2_append [Held] (d : Nat) (x y : Operand) (t t2 : TypeId) : op2K P T s ⟨some d, .call ⟨.builtin .append, ⟨[x, y]⟩, ⟨[t, t2]⟩⟩, ty, pos, af, g⟩ K =
    app0 T s d t t2 (s.ev x) (s.ev y) (kk K) (kk (opK P T s ⟨some d, .call ⟨.builtin .append, ⟨[x, y]⟩, ⟨[t, t2]⟩⟩, ty, pos, af, g⟩ K)) := by
  unfold op2K app0 app1 kk
  dsimp only
  cases s.ev y with
  | v z => cases z <;> first | rfl | (cases s.ev x <;> rfl)
  | _ => cases s.ev x <;> rfl
theorem app0_own (d : Nat) (t t2 : TypeId) (x : PV) (k ver : Nat) (A : Prop) : app0 T s d t t2 x (.own k ver) (kk K) (kk A) = app1 T s d t t2 x (.own k ver) (kk K) (kk A) := (rfl)
theorem app0_sl (d : Nat) (t t2 : TypeId) (x : PV) (fr : Bool) (z : Nat) (c : List PV) (A : Prop) : app0 T s d t t2 x (.sl fr z c) (kk K) (kk A) = app1 T s d t t2 x (.sl fr z c) (kk K) (kk A) := (rfl)
theorem app0_slice (d : Nat) (t t2 : TypeId) (x : PV) (a : Option Addr) (n c : Nat) (A : Prop) : app0 T s d t t2 x (.v (.slice a n c)) (kk K) (kk A) = app1 T s d t t2 x (.v (.slice a n c)) (kk K) (kk A) := (rfl)
def appSD (T : Tab) (r : Row) (s : St) (d : Nat) (kd : TK) (z : Nat) (kd2 : TK) (z2 k ver : Nat) (b : ByteArray) (K : St → Prop) : Prop :=
  0 < z ∧ 0 < z2 ∧ kd2 = .str ∧ match kd with
  | .sli e => (T e).size = 1 ∧ 0 < (T e).bytes ∧ (r.ver = ver ∧ (match r.kind with
          | .nil => b.size * (T e).bytes ≤ 140737488355328 ∧ K (appSt s d k (.sli e (T e).size false (strB b)))
          | .sli e' sz' false c => e' = e ∧ sz' = (T e).size ∧ (c.length + b.size) * (T e).bytes ≤ 140737488355328 ∧ K (appSt s d k (.sli e (T e).size false (c ++ strB b)))
          | _ => False))
  | _ => False
theorem app0_str (d : Nat) (t t2 : TypeId) (k ver : Nat) (b : ByteArray) (A : Prop) : app0 T s d t t2 (.own k ver) (.v (.string b)) (kk K) (kk A) = appSD T (s.rw k) s d (T t).k (T t).size (T t2).k (T t2).size k ver b (kk K) := (rfl)
theorem appSD_sli (d k ver e : Nat) (c : List PV) (b : ByteArray) (h : (T e).size = 1) (h2 : (T e).bytes = 1) : appSD T ⟨ver, .sli e 1 false c⟩ s d (.sli e) 1 .str 1 k ver b (kk K) =
    (c.length + b.size ≤ 140737488355328 ∧ K (appSt s d k (.sli e 1 false (c ++ strB b)))) := by
  simp only [appSD, h, h2, Nat.one_pos, true_and, kk, Nat.mul_one]
theorem appSD_nil (d k ver e : Nat) (b : ByteArray) (h : (T e).size = 1) (h2 : (T e).bytes = 1) : appSD T ⟨ver, .nil⟩ s d (.sli e) 1 .str 1 k ver b (kk K) =
    (b.size ≤ 140737488355328 ∧ K (appSt s d k (.sli e 1 false (strB b)))) := by
  simp only [appSD, h, h2, Nat.one_pos, true_and, kk, Nat.mul_one]
theorem app1_v (d : Nat) (t t2 : TypeId) (x : Value) (y : PV) (A : Prop) : app1 T s d t t2 (.v x) y (kk K) (kk A) = A := (rfl)
theorem app1_sl (d : Nat) (t t2 : TypeId) (fr : Bool) (z : Nat) (c : List PV) (y : PV) (A : Prop) : app1 T s d t t2 (.sl fr z c) y (kk K) (kk A) = A := (rfl)
def app1Row (T : Tab) (r : Row) (s : St) (d : Nat) (t t2 : TypeId) (k ver : Nat) (y : PV) (Kt : St → Prop) (A : Prop) : Prop := match r.kind with | .tab e c => appT T s d t t2 k ver e c y Kt | _ => A
theorem app1_own (d : Nat) (t t2 : TypeId) (k ver : Nat) (y : PV) (A : Prop) : app1 T s d t t2 (.own k ver) y (kk K) (kk A) = app1Row T (s.rw k) s d t t2 k ver y (kk K) (kk A) := (rfl)
theorem app1Row_sli (d : Nat) (t t2 : TypeId) (k ver v e z : Nat) (fz : Bool) (c : List PV) (y : PV) (A : Prop) : app1Row T ⟨v, .sli e z fz c⟩ s d t t2 k ver y (kk K) (kk A) = A := (rfl)
theorem app1Row_nil (d : Nat) (t t2 : TypeId) (k ver v : Nat) (y : PV) (A : Prop) : app1Row T ⟨v, .nil⟩ s d t t2 k ver y (kk K) (kk A) = A := (rfl)
def appTD (T : Tab) (s : St) (d : Nat) (kd : TK) (z k ver e : Nat) (r : Row) (c : List PV) (y : PV) (K : St → Prop) : Prop :=
  0 < z ∧ kd = .sli e ∧ (T e).size = 1 ∧ 0 < (T e).bytes ∧ r.ver = ver ∧ newsT s.rw y fun news => (c.length + news.length) * (T e).bytes ≤ 140737488355328 ∧ K (appSt s d k (.tab e (c ++ news)))
theorem app1Row_tab (d : Nat) (t : TypeId) (k ver v e : Nat) (c : List PV) (y : PV) (A : Prop) : app1Row T ⟨v, .tab e c⟩ s d t t k ver y (kk K) (kk A) = appTD T s d (T t).k (T t).size k ver e (s.rw k) c y (kk K) := propext ⟨fun h => h.2, fun h => ⟨rfl, h⟩⟩
theorem appTD_sli (d k ver e e' : Nat) (c c' : List PV) (y : PV) (h : (T e).size = 1) (h2 : 0 < (T e).bytes) : appTD T s d (.sli e) 1 k ver e ⟨ver, .tab e' c'⟩ c y (kk K) =
    newsT s.rw y (kk fun news => (c.length + news.length) * (T e).bytes ≤ 140737488355328 ∧ K (appSt s d k (.tab e (c ++ news)))) := by
  simp only [appTD, h, h2, Nat.one_pos, true_and, kk]
def newsTR (r : Row) (rw : Nat → Row) (v : Nat) (Kc : List PV → Prop) : Prop := r.ver = v ∧ (match r.kind with
      | .sli _ sz _ c => sz = 1 ∧ (∀ p ∈ c, isV p = true) ∧ Kc c
      | .tab _ c => (∀ p ∈ c, oneP rw p) ∧ Kc c
      | _ => False)
theorem newsT_own (rw : Nat → Row) (j v : Nat) (Kc : List PV → Prop) : newsT rw (.own j v) (kk Kc) = newsTR (rw j) rw v (kk Kc) := (rfl)
theorem newsTR_iL [Held] (rw : Nat → Row) (v e : Nat) (fz : Bool) (xs : List Int) (Kc : List PV → Prop) : newsTR ⟨v, .sli e 1 fz (iL xs)⟩ rw v (kk Kc) = Kc (iL xs) := by
  have := iL_isV xs
  simp only [newsTR, this, true_and, kk]
theorem newsTR_tab (rw : Nat → Row) (v e k ver : Nat) (Kc : List PV → Prop) : newsTR ⟨v, .tab e [.own k ver]⟩ rw v (kk Kc) = (oneP rw (.own k ver) ∧ Kc [.own k ver]) := by
  simp only [newsTR, true_and, kk, List.mem_singleton, forall_eq]
theorem op2_build [Held] (t : TypeId) (parts : Array (Nat × Operand)) : op2K P T s ⟨dst, .build t parts, ty, pos, af, g⟩ K = opK P T s ⟨dst, .build t parts, ty, pos, af, g⟩ K := (rfl)
theorem op2_store [Held] (t : TypeId) (ad x : Operand) : op2K P T s ⟨dst, .store t ad x, ty, pos, af, g⟩ K = opK P T s ⟨dst, .store t ad x, ty, pos, af, g⟩ K := (rfl)
theorem op2_make [Held] (t : TypeId) (l c : Operand) : op2K P T s ⟨dst, .makeSlice t l c, ty, pos, af, g⟩ K = opK P T s ⟨dst, .makeSlice t l c, ty, pos, af, g⟩ K := (rfl)
theorem op2_slice [Held] (t : TypeId) (x : Operand) (lo hi mx : Option Operand) : op2K P T s ⟨dst, .slice t x lo hi mx, ty, pos, af, g⟩ K = opK P T s ⟨dst, .slice t x lo hi mx, ty, pos, af, g⟩ K := (rfl)
theorem op2_bin_tmp [Held] (op : BinOp) (t t2 : TypeId) (x : Operand) (y : Nat) : op2K P T s ⟨dst, .binOp op t x (.tmp y) t2, ty, pos, af, g⟩ K = opK P T s ⟨dst, .binOp op t x (.tmp y) t2, ty, pos, af, g⟩ K := by cases op <;> rfl
theorem op2_bin_int [Held] (op : BinOp) (t t2 : TypeId) (x : Operand) (k : IntKind) (n : Int) : op2K P T s ⟨dst, .binOp op t x (.const (.int k n)) t2, ty, pos, af, g⟩ K = opK P T s ⟨dst, .binOp op t x (.const (.int k n)) t2, ty, pos, af, g⟩ K := by cases op <;> rfl
theorem op2_bin_bool [Held] (op : BinOp) (t t2 : TypeId) (x : Operand) (b : Bool) : op2K P T s ⟨dst, .binOp op t x (.const (.bool b)) t2, ty, pos, af, g⟩ K = opK P T s ⟨dst, .binOp op t x (.const (.bool b)) t2, ty, pos, af, g⟩ K := by cases op <;> rfl
theorem op2_bin_string [Held] (op : BinOp) (t t2 : TypeId) (x : Operand) (b : ByteArray) : op2K P T s ⟨dst, .binOp op t x (.const (.string b)) t2, ty, pos, af, g⟩ K = opK P T s ⟨dst, .binOp op t x (.const (.string b)) t2, ty, pos, af, g⟩ K := by cases op <;> rfl
end
section
variable {dst : Option Nat} {ty : TypeId} {pos : String} {af : Array Edge} {g : Option (Nat × Bool)} {Ke : Ent → St → Prop}
theorem dO_move [Held] (x : Operand) : dK P T s ⟨dst, .move x, ty, pos, af, g⟩ (kk Ke) = evK (s.ev x) (kk fun p => Ke ⟨[], .ids []⟩ (s.put dst p)) := (rfl)
theorem dO_assign [Held] (x : Operand) : dK P T s ⟨dst, .assign x, ty, pos, af, g⟩ (kk Ke) = evK (s.ev x) (kk fun p => Ke ⟨[], .ids []⟩ (s.put dst p)) := (rfl)
theorem dO_pick [Held] (c x y : Operand) : dK P T s ⟨dst, .pick c x y, ty, pos, af, g⟩ (kk Ke) = condK (s.ev c) (kk (evK (s.ev x) (kk fun p => Ke ⟨[], .ids []⟩ (s.put dst p)))) (kk (evK (s.ev y) (kk fun p => Ke ⟨[], .ids []⟩ (s.put dst p)))) := (rfl)
theorem dO_bin [Held] (op : BinOp) (t t2 : TypeId) (x y : Operand) : dK P T s ⟨dst, .binOp op t x y t2, ty, pos, af, g⟩ (kk Ke) = binK T op t (s.ev x) (s.ev y) (kk fun p => Ke ⟨[], .ids []⟩ (s.put dst p)) := (rfl)
theorem dO_un [Held] (op : UnOp) (t : TypeId) (x : Operand) : dK P T s ⟨dst, .unOp op t x, ty, pos, af, g⟩ (kk Ke) = unK op (s.ev x) (kk fun p => Ke ⟨[], .ids []⟩ (s.put dst p)) := (rfl)
theorem dO_convert [Held] (a b : TypeId) (x : Operand) : dK P T s ⟨dst, .convert a b x, ty, pos, af, g⟩ (kk Ke) = idsG [s.ev x] [] (kk fun l => convK T s.rw a b (s.ev x) (kk fun p => Ke ⟨l, .ids []⟩ (s.put dst p))) := (rfl)
theorem dO_load [Held] (t : TypeId) (x : Operand) : dK P T s ⟨dst, .load t x, ty, pos, af, g⟩ (kk Ke) = idsG [s.ev x] [] (kk fun l => ptrK s.rw (s.ev x) (kk fun m c off => ldK T t m c off (kk fun p => Ke ⟨l, .ids []⟩ (s.put dst p)))) := (rfl)
theorem dO_fieldAddr [Held] (t : TypeId) (x : Operand) (f : Nat) : dK P T s ⟨dst, .fieldAddr t x f, ty, pos, af, g⟩ (kk Ke) =
    idsG [s.ev x] [] (kk fun l => fieldK T t f (kk fun o _ => isPtr (s.ev x) = true ∧ sureK s.rw (s.ev x) (kk (evK (shiftP (s.ev x) o) (kk fun p => Ke ⟨l, .ids []⟩ (s.put dst p)))))) := (rfl)
theorem dO_field [Held] (t : TypeId) (x : Operand) (f : Nat) : dK P T s ⟨dst, .field t x f, ty, pos, af, g⟩ (kk Ke) =
    agK (s.ev x) (kk fun c => fieldK T t f (kk fun o ft => ldK T ft .asis c o (kk fun p => Ke ⟨[], .ids []⟩ (s.put dst p)))) := opK_field (P := P) (T := T) (s := s) (K := Ke ⟨[], .ids []⟩) (dst := dst) (ty := ty) (pos := pos) (af := af) (g := g) t x f
theorem dO_indexAddr [Held] (t : TypeId) (x y : Operand) : dK P T s ⟨dst, .indexAddr t x y, ty, pos, af, g⟩ (kk Ke) = idsG [s.ev x, s.ev y] [] (kk fun l => indexAddrK T s.rw t (s.ev x) (s.ev y) (kk fun p => Ke ⟨l, .ids []⟩ (s.put dst p))) := (rfl)
theorem dO_index [Held] (t : TypeId) (x y : Operand) : dK P T s ⟨dst, .index t x y, ty, pos, af, g⟩ (kk Ke) = indexK T t (s.ev x) (s.ev y) (kk fun p => Ke ⟨[], .ids []⟩ (s.put dst p)) := (rfl)
theorem dO_extract [Held] (x : Operand) (n : Nat) : dK P T s ⟨dst, .extract x n, ty, pos, af, g⟩ (kk Ke) = tupK (s.ev x) (kk fun ps => n < ps.length ∧ evK (ps.getD n .junk) (kk fun p => Ke ⟨[], .ids []⟩ (s.put dst p))) := (rfl)
theorem dO_makeFunc [Held] (f : FuncId) (caps : Array Operand) : dK P T s ⟨dst, .makeFunc (.func f) #[] caps, ty, pos, af, g⟩ (kk Ke) = Ke ⟨[], .ids []⟩ (s.put dst (.clo f (caps.toList.map s.ev))) := by
  show (#[] = (#[] : Array Operand) ∧ Ke ⟨[], .ids []⟩ (s.put dst (.clo f (caps.toList.map s.ev)))) = _
  simp
theorem dO_nilCheck [Held] (x : Operand) : dK P T s ⟨dst, .nilCheck x, ty, pos, af, g⟩ (kk Ke) = idsG [s.ev x] [] (kk fun l => sureK s.rw (s.ev x) (kk (evK (s.ev x) (kk fun p => Ke ⟨l, .ids []⟩ (s.put dst p))))) := (rfl)
theorem dO_len [Held] (x : Operand) (t : TypeId) : dK P T s ⟨dst, .call ⟨.builtin .len, #[x], #[t]⟩, ty, pos, af, g⟩ (kk Ke) = idsG [s.ev x] [] (kk fun l => lenK T s.rw t (s.ev x) (kk fun p => Ke ⟨l, .ids []⟩ (s.put dst p))) := (rfl)
theorem dO_max [Held] (x y : Operand) (ts : Array TypeId) : dK P T s ⟨dst, .call ⟨.builtin .max, #[x, y], ts⟩, ty, pos, af, g⟩ (kk Ke) = idsG [s.ev x, s.ev y] [] (kk fun l => minmaxK true (s.ev x) (s.ev y) (kk fun p => Ke ⟨l, .ids []⟩ (s.put dst p))) := (rfl)
theorem dO_min [Held] (x y : Operand) (ts : Array TypeId) : dK P T s ⟨dst, .call ⟨.builtin .min, #[x, y], ts⟩, ty, pos, af, g⟩ (kk Ke) = idsG [s.ev x, s.ev y] [] (kk fun l => minmaxK false (s.ev x) (s.ev y) (kk fun p => Ke ⟨l, .ids []⟩ (s.put dst p))) := (rfl)
theorem dO_slice0 [Held] (t : TypeId) (x : Operand) (mx : Option Operand) : dK P T s ⟨dst, .slice t x none none mx, ty, pos, af, g⟩ (kk Ke) = idsG (s.ev x :: (mx.toList).map s.ev) [] (kk fun l => sliceK T s.rw s.ev t (s.ev x) none none mx (kk fun p => Ke ⟨l, .ids []⟩ (s.put dst p))) := by
  cases mx <;> rfl
theorem dO_slice1 [Held] (t : TypeId) (x lo : Operand) : dK P T s ⟨dst, .slice t x (some lo) none none, ty, pos, af, g⟩ (kk Ke) = idsG [s.ev x, s.ev lo] [] (kk fun l => sliceK T s.rw s.ev t (s.ev x) (some lo) none none (kk fun p => Ke ⟨l, .ids []⟩ (s.put dst p))) := (rfl)
def cutRow (T : Tab) (s : St) (dst : Option Nat) (t : TypeId) (x hi : Operand) (r : Row) (k ver : Nat) (py : PV) (Ke : Ent → St → Prop) : Prop :=
  match r.kind with
  | .sli _ _ false _ => cutK T s dst t r k ver py Ke
  | _ => idsG [.own k ver, py] [] (kk fun l => sliceK T s.rw s.ev t (.own k ver) none (some hi) none (kk fun p => Ke ⟨l, .ids []⟩ (s.put dst p)))
def cutX (T : Tab) (s : St) (dst : Option Nat) (t : TypeId) (x hi : Operand) (px py : PV) (Ke : Ent → St → Prop) : Prop :=
  match px with
  | .own k ver => cutRow T s dst t x hi (s.rw k) k ver py Ke
  | _ => idsG [px, py] [] (kk fun l => sliceK T s.rw s.ev t px none (some hi) none (kk fun p => Ke ⟨l, .ids []⟩ (s.put dst p)))
theorem cutX_own (t : TypeId) (x hi : Operand) (k ver : Nat) (py : PV) : cutX T s dst t x hi (.own k ver) py (kk Ke) = cutRow T s dst t x hi (s.rw k) k ver py (kk Ke) := (rfl)
theorem cutX_sl (t : TypeId) (x hi : Operand) (fr : Bool) (z : Nat) (c : List PV) (py : PV) : cutX T s dst t x hi (.sl fr z c) py (kk Ke) = idsG [.sl fr z c, py] [] (kk fun l => sliceK T s.rw s.ev t (.sl fr z c) none (some hi) none (kk fun p => Ke ⟨l, .ids []⟩ (s.put dst p))) := (rfl)
theorem cutX_v (t : TypeId) (x hi : Operand) (v : Value) (py : PV) : cutX T s dst t x hi (.v v) py (kk Ke) = idsG [.v v, py] [] (kk fun l => sliceK T s.rw s.ev t (.v v) none (some hi) none (kk fun p => Ke ⟨l, .ids []⟩ (s.put dst p))) := (rfl)
theorem cutRow_fz (t : TypeId) (x hi : Operand) (v e z : Nat) (c : List PV) (k ver : Nat) (py : PV) : cutRow T s dst t x hi ⟨v, .sli e z true c⟩ k ver py (kk Ke) = idsG [.own k ver, py] [] (kk fun l => sliceK T s.rw s.ev t (.own k ver) none (some hi) none (kk fun p => Ke ⟨l, .ids []⟩ (s.put dst p))) := (rfl)
def cutOk (T : Tab) (t e : TypeId) : Prop := 0 < (T t).size ∧ (T t).k = .sli e ∧ 0 < (T e).size ∧ (T e).size = 1
theorem cutRow_live (t : TypeId) (x hi : Operand) (v e : Nat) (c : List PV) (k ver d : Nat) (kd : IntKind) (m : Int) : cutRow T s (some d) t x hi ⟨v, .sli e 1 false c⟩ k ver (.v (.int kd m)) (kk Ke) =
    (v = ver ∧ cutOk T t e ∧ 0 ≤ m ∧ m ≤ (c.length : Int) ∧ Ke ⟨[], .ids [k]⟩ ((s.row k ⟨ver + 1, .sli e 1 false (c.take m.toNat)⟩).put (some d) (.own k (ver + 1)))) := by
  refine propext ⟨fun h => ?_, fun ⟨h1, ⟨h2, h3, h4, h5⟩, h6, h7, h8⟩ => ⟨d, e, c, kd, m, rfl, by rw [h1], h2, h3, h4, h5, rfl, h6, h7, h8⟩⟩
  obtain ⟨d', e', c', kd', m', g1, g2, g3, g4, g5, g6, g7, g8, g9, g10⟩ := h
  cases g1; cases g2; cases g7
  exact ⟨rfl, ⟨g3, g4, g5, g6⟩, g8, g9, g10⟩
theorem dO_slice2 [Held] (t : TypeId) (x hi : Operand) : dK P T s ⟨dst, .slice t x none (some hi) none, ty, pos, af, g⟩ (kk Ke) = cutX T s dst t x hi (s.ev x) (s.ev hi) (kk Ke) := by
  have hr : (readK T s.rw s.ev (.slice t x none (some hi) none) fun p => Ke ⟨rdIds s ⟨dst, .slice t x none (some hi) none, ty, pos, af, g⟩, .ids []⟩ (s.put dst p)) = idsG [s.ev x, s.ev hi] [] (kk fun l => sliceK T s.rw s.ev t (s.ev x) none (some hi) none (kk fun p => Ke ⟨l, .ids []⟩ (s.put dst p))) := (rfl)
  show cutR T s ⟨dst, .slice t x none (some hi) none, ty, pos, af, g⟩ t (s.ev x) (s.ev hi) (kk Ke) = _
  cases hx : s.ev x with
  | own k ver =>
    rw [hx] at hr
    unfold cutR cutX cutRow
    dsimp only
    generalize s.rw k = r
    cases r with
    | mk v kd =>
      cases kd with
      | sli e z fz c => cases fz with
        | false => rfl
        | true => exact hr
      | _ => exact hr
  | _ => rw [hx] at hr; exact hr
theorem dO_slice3 [Held] (t : TypeId) (x lo hi : Operand) : dK P T s ⟨dst, .slice t x (some lo) (some hi) none, ty, pos, af, g⟩ (kk Ke) = idsG [s.ev x, s.ev lo, s.ev hi] [] (kk fun l => sliceK T s.rw s.ev t (s.ev x) (some lo) (some hi) none (kk fun p => Ke ⟨l, .ids []⟩ (s.put dst p))) := (rfl)
theorem dO_build [Held] (t : TypeId) (parts : List (Nat × Operand)) : dK P T s ⟨dst, .build t ⟨parts⟩, ty, pos, af, g⟩ (kk Ke) = idsG (evs s parts) [] (kk fun l => bldD T s.rw (T t).k (T t).size (T t).zero (prts s parts) (kk fun p => Ke ⟨l, .ids []⟩ (s.put dst p))) := by
  have e : ((Op.build t ⟨parts⟩).operands.toList.map s.ev).flatMap pids = (evs s parts).flatMap pids := by
    simp [Op.operands, evs]
    rfl
  show readK T s.rw s.ev (.build t ⟨parts⟩) (fun p => Ke ⟨((Op.build t ⟨parts⟩).operands.toList.map s.ev).flatMap pids, .ids []⟩ (s.put dst p)) = _
  rw [e]
  exact (bld_eq (T := T) (s := s) t parts (fun p => Ke ⟨(evs s parts).flatMap pids, .ids []⟩ (s.put dst p)))
def askD [Held] (P : Program) (f : FuncId) (raw : List PV) (d : Nat) (s : St) (Ke : Ent → St → Prop) : Prop := askTd P s f raw d (fun rd k s1 => Ke ⟨rd, .ids [d, k]⟩ s1)
theorem askDR_of [Held] {f : FuncId} {raw lent : List PV} {k d : Nat} {x : RV} {r : Row} {Ka : RV → Prop} {us : Dm s} {u : Dm Ke} (rd : List Nat) (h : ∀ s' : St, s'.rw k = s.rw k → (∀ a ∈ rd, s'.rw a = s.rw a) → ∀ K' : St → Prop, K' (adoptSt (s'.row k r) d x) → askG P s' f raw (some d) K') (hd : d % 1000 ≠ k % 1000)
    (hk : Ke ⟨rd, .ids [d, k]⟩ (adoptSt (s.row k r) d x)) : askK P f lent Ka (askD P f raw d (kk s us) (kk Ke u)) := .inr (.inr (.inr ⟨rd, k, x, r, h, hd, hk⟩))
theorem dO_call [Held] (d : Nat) (f : Operand) (args : List Operand) (ts : Array TypeId) : dK P T s ⟨some d, .call ⟨.value f, ⟨args⟩, ts⟩, ty, pos, af, g⟩ (kk Ke) =
    lidG s.rw 3 (raws s args) [] (kk fun l => lidG s.rw 4 [s.ev f] l (kk fun l' => cloK (s.ev f) (kk fun g caps => askK P g (lends s args ++ caps.map (lend s.rw 3)) (kk fun rv => Ke ⟨l', .res d⟩ (adoptSt s d rv)) (askD P g (raws s args ++ caps) d (kk s) (kk Ke))))) := by
  simp only [lidG, kk_eq, List.nil_append, List.flatMap_cons, List.flatMap_nil, List.append_nil]
  show (callK P s.rw s.ev f ⟨args⟩ (fun rv => Ke ⟨(raws s args).flatMap (lids s.rw 3) ++ lids s.rw 4 (s.ev f), .res d⟩ (adoptSt s d rv)) ∨ tdK P s f ⟨.value f, ⟨args⟩, ts⟩ d Ke) = _
  unfold callK tdK cloK askK askD kk
  cases s.ev f <;> first | rfl | (simp; done) | skip
theorem dO_call_none [Held] (f : Operand) (args : List Operand) (ts : Array TypeId) : dK P T s ⟨none, .call ⟨.value f, ⟨args⟩, ts⟩, ty, pos, af, g⟩ (kk Ke) =
    lidG s.rw 3 (raws s args) [] (kk fun l => lidG s.rw 4 [s.ev f] l (kk fun l' => cloK (s.ev f) (kk fun g caps => askK P g (lends s args ++ caps.map (lend s.rw 3)) (kk fun rv => Ke ⟨l', .ids []⟩ s) False))) := by
  have e := callN_eq (P := P) (s := s) f args (fun rv => Ke ⟨(raws s args).flatMap (lids s.rw 3) ++ lids s.rw 4 (s.ev f), .ids []⟩ s)
  simp only [lidG, kk_eq, List.nil_append, List.flatMap_cons, List.flatMap_nil, List.append_nil]
  exact e
theorem dO_append [Held] (d : Nat) (x y : Operand) (t t2 : TypeId) : dK P T s ⟨some d, .call ⟨.builtin .append, #[x, y], #[t, t2]⟩, ty, pos, af, g⟩ (kk Ke) =
    idsG [s.ev y] [] (kk fun l => idsG [s.ev x] [d] (kk fun l' => opK P T s ⟨some d, .call ⟨.builtin .append, #[x, y], #[t, t2]⟩, ty, pos, af, g⟩ (Ke ⟨l, .ids l'⟩))) := by
  have e : ∀ p : PV, [p].flatMap pids = pids p := fun p => by simp
  unfold idsG
  simp only [kk, e, List.nil_append]
  rfl
theorem dO_alloc [Held] (d : Nat) (t : TypeId) : dK P T s ⟨some d, .alloc t, ty, pos, af, g⟩ (kk Ke) = opK P T s ⟨some d, .alloc t, ty, pos, af, g⟩ (Ke ⟨[], .ids [d]⟩) := (rfl)
theorem dO_box [Held] (d : Nat) (t : TypeId) (x : Operand) : dK P T s ⟨some d, .box t x, ty, pos, af, g⟩ (kk Ke) = idsG [s.ev x] [] (kk fun l => opK P T s ⟨some d, .box t x, ty, pos, af, g⟩ (Ke ⟨l, .ids [d]⟩)) := by
  have e : ∀ p : PV, [p].flatMap pids = pids p := fun p => by simp
  unfold idsG
  simp only [kk, e, List.nil_append]
  rfl
theorem dO_buildSlice [Held] (d : Nat) (t : TypeId) (n : Nat) (parts : List (Nat × Operand)) : dK P T s ⟨some d, .buildSlice t n ⟨parts⟩, ty, pos, af, g⟩ (kk Ke) = idsG (evs s parts) [d] (kk fun l => opK P T s ⟨some d, .buildSlice t n ⟨parts⟩, ty, pos, af, g⟩ (Ke ⟨[], .ids l⟩)) := (rfl)
theorem dO_store [Held] (t : TypeId) (ad x : Operand) : dK P T s ⟨dst, .store t ad x, ty, pos, af, g⟩ (kk Ke) = idsG [s.ev ad, s.ev x] [] (kk fun l => opK P T s ⟨dst, .store t ad x, ty, pos, af, g⟩ (Ke ⟨[], .ids l⟩)) := by
  have e : [s.ev ad, s.ev x].flatMap pids = pids (s.ev ad) ++ pids (s.ev x) := by simp
  unfold idsG
  simp only [kk, e, List.nil_append]
  rfl
theorem dO_make [Held] (d : Nat) (t : TypeId) (l c : Operand) : dK P T s ⟨some d, .makeSlice t l c, ty, pos, af, g⟩ (kk Ke) = opK P T s ⟨some d, .makeSlice t l c, ty, pos, af, g⟩ (Ke ⟨[], .ids [d]⟩) := (rfl)
end
def TK.isInt : TK → Bool | .int _ => true | _ => false
section
variable {Kp : PV → Prop} {rw : Nat → Row}
section
variable (t : TypeId) (k : IntKind) (a b : Int)
theorem bin_add : binK T .add t (.v (.int k a)) (.v (.int k b)) Kp = Kp (.v (.int k (k.wrap (a + b)))) := by simp [binK, binIntC, binInt]
theorem bin_sub : binK T .sub t (.v (.int k a)) (.v (.int k b)) Kp = Kp (.v (.int k (k.wrap (a - b)))) := by simp [binK, binIntC, binInt]
theorem bin_mul : binK T .mul t (.v (.int k a)) (.v (.int k b)) Kp = Kp (.v (.int k (k.wrap (a * b)))) := by simp [binK, binIntC, binInt]
theorem bin_quo : binK T .quo t (.v (.int k a)) (.v (.int k b)) Kp = (b ≠ 0 ∧ Kp (.v (.int k (k.wrap (a.tdiv b))))) := by simp [binK, binIntC, binInt]
theorem bin_rem : binK T .rem t (.v (.int k a)) (.v (.int k b)) Kp = (b ≠ 0 ∧ Kp (.v (.int k (a.tmod b)))) := by simp [binK, binIntC, binInt]
theorem bin_and : binK T .and t (.v (.int k a)) (.v (.int k b)) Kp = Kp (.v (.int k (iand k a b))) := by simp [binK, binIntC, binInt]
theorem bin_or : binK T .or t (.v (.int k a)) (.v (.int k b)) Kp = Kp (.v (.int k (ior k a b))) := by simp [binK, binIntC, binInt]
theorem bin_xor : binK T .xor t (.v (.int k a)) (.v (.int k b)) Kp = Kp (.v (.int k (ixor k a b))) := by simp [binK, binIntC, binInt]
theorem bin_andnot : binK T .andNot t (.v (.int k a)) (.v (.int k b)) Kp = Kp (.v (.int k (iandnot k a b))) := by simp [binK, binIntC, binInt]
theorem bin_shl (k' : IntKind) : binK T .shl t (.v (.int k a)) (.v (.int k' b)) Kp = (0 ≤ b ∧ Kp (.v (.int k (ishl k a b)))) := by simp [binK, binIntC, binInt]
theorem bin_shr (k' : IntKind) : binK T .shr t (.v (.int k a)) (.v (.int k' b)) Kp = (0 ≤ b ∧ Kp (.v (.int k (ishr k a b)))) := by simp [binK, binIntC, binInt]
theorem bin_eql : binK T .eql t (.v (.int k a)) (.v (.int k b)) Kp = Kp (.v (.bool (a == b))) := by simp [binK, binIntC, binInt]
theorem bin_neq : binK T .neq t (.v (.int k a)) (.v (.int k b)) Kp = Kp (.v (.bool (a != b))) := by simp [binK, binIntC, binInt]
theorem bin_lss : binK T .lss t (.v (.int k a)) (.v (.int k b)) Kp = Kp (.v (.bool (decide (a < b)))) := by simp [binK, binIntC, binInt]
theorem bin_leq : binK T .leq t (.v (.int k a)) (.v (.int k b)) Kp = Kp (.v (.bool (decide (a ≤ b)))) := by simp [binK, binIntC, binInt]
theorem bin_gtr : binK T .gtr t (.v (.int k a)) (.v (.int k b)) Kp = Kp (.v (.bool (decide (b < a)))) := by simp [binK, binIntC, binInt]
theorem bin_geq : binK T .geq t (.v (.int k a)) (.v (.int k b)) Kp = Kp (.v (.bool (decide (b ≤ a)))) := by simp [binK, binIntC, binInt]
end
theorem bin_str_eql (t : TypeId) (a b : ByteArray) : binK T .eql t (.v (.string a)) (.v (.string b)) Kp = Kp (.v (.bool (a.toList == b.toList))) := by simp [binK, binStr]
theorem bin_str_neq (t : TypeId) (a b : ByteArray) : binK T .neq t (.v (.string a)) (.v (.string b)) Kp = Kp (.v (.bool (!(a.toList == b.toList)))) := by simp [binK, binStr]
theorem bin_str_add (t : TypeId) (a b : ByteArray) : binK T .add t (.v (.string a)) (.v (.string b)) Kp = (a.size + b.size ≤ 9223372036854775807 ∧ Kp (.v (.string (a ++ b)))) := by simp [binK, binStr]
theorem bin_bool_eql (t : TypeId) (a b : Bool) : binK T .eql t (.v (.bool a)) (.v (.bool b)) Kp = ((T t).k = .bool ∧ 0 < (T t).size ∧ Kp (.v (.bool (a == b)))) := by simp [binK]
theorem bin_bool_neq (t : TypeId) (a b : Bool) : binK T .neq t (.v (.bool a)) (.v (.bool b)) Kp = ((T t).k = .bool ∧ 0 < (T t).size ∧ Kp (.v (.bool (!(a == b))))) := by simp [binK]
theorem un_not (b : Bool) : unK .not (.v (.bool b)) Kp = Kp (.v (.bool !b)) := (rfl)
theorem un_neg (k : IntKind) (n : Int) : unK .neg (.v (.int k n)) Kp = Kp (.v (.int k (k.wrap (0 - n)))) := (rfl)
theorem ptr_eref (fr : Bool) (c : List PV) (off : Nat) (Km : Md → List PV → Nat → Prop) : ptrK rw (.eref fr c off) Km = Km (.set fr) c off := (rfl)
def ptrRow (r : Row) (ver off : Nat) (Km : Md → List PV → Nat → Prop) : Prop := r.ver = ver ∧ match r.kind with | .box _ c => Km .asis c off | .sli _ _ _ c => Km (.set true) c off | .tab _ c => Km .asis c off | _ => False
theorem ptr_ref (j ver off : Nat) (Km : Md → List PV → Nat → Prop) : ptrK rw (.ref j ver off) Km = ptrRow (rw j) ver off Km := (rfl)
theorem ptrRow_box (ver off : Nat) (bt : TypeId) (c : List PV) (Km : Md → List PV → Nat → Prop) : ptrRow ⟨ver, .box bt c⟩ ver off Km = Km .asis c off := by simp [ptrRow]
theorem ptrRow_tab (ver off e : Nat) (c : List PV) (Km : Md → List PV → Nat → Prop) : ptrRow ⟨ver, .tab e c⟩ ver off Km = Km .asis c off := by simp [ptrRow]
theorem ptrRow_sli (ver off e sz : Nat) (fz : Bool) (c : List PV) (Km : Md → List PV → Nat → Prop) : ptrRow ⟨ver, .sli e sz fz c⟩ ver off Km = Km (.set true) c off := by simp [ptrRow]
def lenRow (r : Row) (ver : Nat) (K : PV → Prop) : Prop := r.ver = ver ∧ match r.kind with | .nil => K (.v (.int .i64 0)) | .sli _ sz _ c => 0 < sz ∧ K (.v (.int .i64 ((c.length / sz : Nat) : Int))) | .tab _ c => K (.v (.int .i64 (c.length : Int))) | _ => False
def lenD (rw : Nat → Row) (k : TK) (z : Nat) (x : PV) (K : PV → Prop) : Prop :=
  0 < z ∧ match k with
  | .str => (match x with | .v (.string s) => K (.v (.int .i64 s.size)) | _ => False)
  | .sli _ => lenQ rw x fun sz n => 0 < sz ∧ K (.v (.int .i64 ((n / sz : Nat) : Int)))
  | .arr n _ => K (.v (.int .i64 n))
  | _ => False
theorem len_eq (t : TypeId) (x : PV) : lenK T rw t x Kp = lenD rw (T t).k (T t).size x Kp := (rfl)
theorem len_str (b : ByteArray) : lenD rw .str 1 (.v (.string b)) Kp = Kp (.v (.int .i64 b.size)) := by simp [lenD]
theorem len_sl (e : TypeId) (fr : Bool) (c : List PV) : lenD rw (.sli e) 1 (.sl fr 1 c) Kp = Kp (.v (.int .i64 (c.length : Int))) := by simp [lenD, lenQ]
theorem len_own (e : TypeId) (j ver : Nat) : lenD rw (.sli e) 1 (.own j ver) Kp = lenRow (rw j) ver Kp := by
  simp only [lenD, lenQ, lenRow, true_and, Nat.one_pos]
  cases (rw j).kind <;> simp
theorem lenRow_sli (ver e : Nat) (fz : Bool) (c : List PV) : lenRow ⟨ver, .sli e 1 fz c⟩ ver Kp = Kp (.v (.int .i64 (c.length : Int))) := by simp [lenRow]
theorem lenRow_tab (ver e : Nat) (c : List PV) : lenRow ⟨ver, .tab e c⟩ ver Kp = Kp (.v (.int .i64 (c.length : Int))) := by simp [lenRow]
theorem lenRow_nil (ver : Nat) : lenRow ⟨ver, .nil⟩ ver Kp = Kp (.v (.int .i64 0)) := by simp [lenRow]
def iaD (T : Tab) (rw : Nat → Row) (kd : TK) (z : Nat) (x i : PV) (K : PV → Prop) : Prop :=
  match i with
  | .v (.int _ n) =>
    0 < z ∧ match kd with
    | .sli e =>
      (match x with
      | .sl fr sz c => 0 < (T e).size ∧ sz = (T e).size ∧ 0 ≤ n ∧ n.toNat * sz < c.length ∧ K (.eref fr c (n.toNat * sz))
      | .own k ver => (rw k).ver = ver ∧ match (rw k).kind with | .sli _ sz _ c => 0 < (T e).size ∧ sz = (T e).size ∧ 0 ≤ n ∧ n.toNat * sz < c.length ∧ K (.ref k ver (n.toNat * sz)) | .tab _ c => (T e).size = 1 ∧ 0 ≤ n ∧ n.toNat < c.length ∧ K (.ref k ver n.toNat) | _ => False
      | _ => False)
    | .arr len e => isPtr x = true ∧ 0 < (T e).size ∧ 0 ≤ n ∧ n < len ∧ sureK rw x (K (shiftP x (n.toNat * (T e).size)))
    | _ => False
  | _ => False
theorem ia_eq (t : TypeId) (x i : PV) : indexAddrK T rw t x i Kp = iaD T rw (T t).k (T t).size x i Kp := (rfl)
theorem ia_sl {e : TypeId} {k : IntKind} (fr : Bool) (c : List PV) (n : Int) (h2 : (T e).size = 1) :
    iaD T rw (.sli e) 1 (.sl fr 1 c) (.v (.int k n)) Kp = (0 ≤ n ∧ n < (c.length : Int) ∧ Kp (.eref fr c n.toNat)) := by
  simp only [iaD, h2, Nat.mul_one, true_and, Nat.one_pos]
  refine propext ⟨fun ⟨a, b, c⟩ => ⟨a, by omega, c⟩, fun ⟨a, b, c⟩ => ⟨a, by omega, c⟩⟩
def iaRow (r : Row) (j ver : Nat) (n : Int) (K : PV → Prop) : Prop := r.ver = ver ∧ match r.kind with | .sli _ sz _ c => sz = 1 ∧ 0 ≤ n ∧ n < (c.length : Int) ∧ K (.ref j ver n.toNat) | .tab _ c => 0 ≤ n ∧ n < (c.length : Int) ∧ K (.ref j ver n.toNat) | _ => False
theorem ia_own {e : TypeId} {k : IntKind} (j ver : Nat) (n : Int) (h2 : (T e).size = 1) :
    iaD T rw (.sli e) 1 (.own j ver) (.v (.int k n)) Kp = iaRow (rw j) j ver n Kp := by
  simp only [iaD, h2, iaRow, true_and, Nat.one_pos]
  cases (rw j).kind <;> simp
  · rintro _ rfl h
    rw [Nat.mul_one]
    exact ⟨fun ⟨a, b⟩ => ⟨by omega, b⟩, fun ⟨a, b⟩ => ⟨by omega, b⟩⟩
  · intros; omega
theorem ia_arrG {e : TypeId} {k : IntKind} (len z j ver off : Nat) (n : Int) (h2 : (T e).size = 1) : iaD T rw (.arr len e) (z + 1) (.ref j ver off) (.v (.int k n)) Kp = (0 ≤ n ∧ n < (len : Int) ∧ sureK rw (.ref j ver off) (kk (Kp (.ref j ver (off + n.toNat))))) := by
  simp only [iaD, h2, Nat.mul_one, Nat.zero_lt_succ, Nat.one_pos, true_and, isPtr, shiftP, kk]
theorem ia_arr [Held] {e : TypeId} {k : IntKind} (len z j ver off : Nat) (n : Int) (h2 : (T e).size = 1) : iaD T rw (.arr len e) (z + 1) (.ref j ver (off + 1)) (.v (.int k n)) Kp = (0 ≤ n ∧ n < (len : Int) ∧ sureK rw (.ref j ver (off + 1)) (kk (Kp (.ref j ver (off + 1 + n.toNat))))) := ia_arrG _ _ _ _ _ _ h2
theorem ia_arr0 [Held] {e : TypeId} {k : IntKind} (len z j ver : Nat) (n : Int) (h2 : (T e).size = 1) : iaD T rw (.arr len e) (z + 1) (.ref j ver 0) (.v (.int k n)) Kp = (0 ≤ n ∧ n < (len : Int) ∧ sureK rw (.ref j ver 0) (kk (Kp (.ref j ver n.toNat)))) := by
  rw [ia_arrG _ _ _ _ _ _ h2, Nat.zero_add]
theorem iaRow_tab (j ver e : Nat) (c : List PV) (n : Int) : iaRow ⟨ver, .tab e c⟩ j ver n Kp = (0 ≤ n ∧ n < (c.length : Int) ∧ Kp (.ref j ver n.toNat)) := by simp [iaRow]
theorem iaRow_sli (j ver e : Nat) (fz : Bool) (c : List PV) (n : Int) : iaRow ⟨ver, .sli e 1 fz c⟩ j ver n Kp = (0 ≤ n ∧ n < (c.length : Int) ∧ Kp (.ref j ver n.toNat)) := by simp [iaRow]
theorem ld_list {α : Type} (f : α → PV) (d : α) (xs : List α) {t : TypeId} {m : Md} (o : Nat) (g : α → PV) (hg : ∀ x, m.fix (f x) = g x) (h0 : (T t).k.agg = false) (h1 : 0 < (T t).size) :
    ldK T t m (xs.map f) o Kp = (o < xs.length ∧ Kp (g (xs.getD o d))) := by
  simp only [ldK, h0, h1, true_and, List.length_map]
  refine propext ⟨fun ⟨a, b⟩ => ⟨a, ?_⟩, fun ⟨a, b⟩ => ⟨a, ?_⟩⟩
  · have e : (xs.map f).getD o .junk = f xs[o] := by simp [List.getD, a]
    have e2 : xs.getD o d = xs[o] := by simp [List.getD, a]
    rw [e, hg] at b
    rw [e2]
    exact b
  · have e : (xs.map f).getD o .junk = f xs[o] := by simp [List.getD, a]
    have e2 : xs.getD o d = xs[o] := by simp [List.getD, a]
    rw [e, hg]
    rw [e2] at b
    exact b
theorem fix_v (m : Md) (v : Value) : m.fix (.v v) = .v v := by cases m <;> rfl
theorem fix_sl (fr f : Bool) (sz : Nat) (c : List PV) : (Md.set fr).fix (.sl f sz c) = .sl fr sz c := (rfl)
theorem fix_asis (p : PV) : Md.asis.fix p = p := (rfl)
theorem ld_iL [Held] (xs : List Int) {t : TypeId} {m : Md} (o : Nat) (h0 : (T t).k.agg = false) (h1 : 0 < (T t).size) : ldK T t m (iL xs) o Kp = (o < xs.length ∧ Kp (.v (.int .i64 (xs.getD o 0)))) :=
  ld_list _ 0 xs o _ (fun x => fix_v m _) h0 h1
theorem ld_kL [Held] (k : IntKind) (xs : List Int) {t : TypeId} {m : Md} (o : Nat) (h0 : (T t).k.agg = false) (h1 : 0 < (T t).size) : ldK T t m (kL k xs) o Kp = (o < xs.length ∧ Kp (.v (.int k (xs.getD o 0)))) :=
  ld_list _ 0 xs o _ (fun x => fix_v m _) h0 h1
theorem ld_bL [Held] (xs : List Bool) {t : TypeId} {m : Md} (o : Nat) (h0 : (T t).k.agg = false) (h1 : 0 < (T t).size) : ldK T t m (bL xs) o Kp = (o < xs.length ∧ Kp (.v (.bool (xs.getD o false)))) :=
  ld_list _ false xs o _ (fun x => fix_v m _) h0 h1
theorem ld_sL [Held] (xs : List ByteArray) {t : TypeId} {m : Md} (o : Nat) (h0 : (T t).k.agg = false) (h1 : 0 < (T t).size) : ldK T t m (sL xs) o Kp = (o < xs.length ∧ Kp (.v (.string (xs.getD o ⟨#[]⟩)))) :=
  ld_list (fun n => PV.v (.string n)) ⟨#[]⟩ xs o (fun n => PV.v (.string n)) (fun x => fix_v m _) h0 h1
theorem ld_iLL [Held] (xs : List (List Int)) {t : TypeId} {fr : Bool} (o : Nat) (h0 : (T t).k.agg = false) (h1 : 0 < (T t).size) : ldK T t (.set fr) (iLL xs) o Kp = (o < xs.length ∧ Kp (.sl fr 1 (iL (xs.getD o [])))) :=
  ld_list _ [] xs o (fun r => .sl fr 1 (iL r)) (fun x => rfl) h0 h1
theorem ld_c0 {t : TypeId} {m : Md} (p : PV) (c : List PV) (h0 : (T t).k.agg = false) (h1 : 0 < (T t).size) : ldK T t m (p :: c) 0 Kp = evK (m.fix p) Kp := by simp [ldK, h0, h1, evK]
theorem ld_c1 {t : TypeId} {m : Md} (p q : PV) (c : List PV) (h0 : (T t).k.agg = false) (h1 : 0 < (T t).size) : ldK T t m (p :: q :: c) 1 Kp = evK (m.fix q) Kp := by simp [ldK, h0, h1, evK]
theorem ld_c2 {t : TypeId} {m : Md} (p q r : PV) (c : List PV) (h0 : (T t).k.agg = false) (h1 : 0 < (T t).size) : ldK T t m (p :: q :: r :: c) 2 Kp = evK (m.fix r) Kp := by simp [ldK, h0, h1, evK]
theorem ld_c3 {t : TypeId} {m : Md} (p q r s : PV) (c : List PV) (h0 : (T t).k.agg = false) (h1 : 0 < (T t).size) : ldK T t m (p :: q :: r :: s :: c) 3 Kp = evK (m.fix s) Kp := by simp [ldK, h0, h1, evK]
theorem ld_many {t : TypeId} {m : Md} (p : PV) (c0 : List PV) (o : Nat) (h0 : (T t).k.agg = true) (h1 : 0 < (T t).size) : ldK T t m (p :: c0) o Kp = (o + (T t).size ≤ (p :: c0).length ∧ evK (.ag ((((p :: c0).drop o).take (T t).size).map m.fix)) Kp) := by simp [ldK, h0, h1, evK]
def fieldD (T : Tab) (kd : TK) (z : Nat) (f : Nat) (K : Nat → TypeId → Prop) : Prop :=
  0 < z ∧ match kd with | .struct fs => (match fs[f]? with | some (o, ft) => 0 < (T ft).size ∧ K o ft | none => False) | _ => False
def optF (T : Tab) (x : Option (Nat × TypeId)) (K : Nat → TypeId → Prop) : Prop := match x with | some (o, ft) => 0 < (T ft).size ∧ K o ft | none => False
theorem field_eq (t : TypeId) (f : Nat) (Kf : Nat → TypeId → Prop) : fieldK T t f Kf = fieldD T (T t).k (T t).size f Kf := (rfl)
theorem field_struct (fs : List (Nat × TypeId)) (z f : Nat) (Kf : Nat → TypeId → Prop) : fieldD T (.struct fs) (z + 1) f Kf = optF T fs[f]? Kf := by simp only [fieldD, optF, Nat.zero_lt_succ, true_and]
theorem optF_some (o : Nat) (ft : TypeId) (Kf : Nat → TypeId → Prop) (h : 0 < (T ft).size) : optF T (some (o, ft)) Kf = Kf o ft := by simp [optF, h]
theorem field_struct2 [Held] (fs : List (Nat × TypeId)) (f : Nat) (Kf : Nat → TypeId → Prop) : fieldD T (.struct fs) 2 f Kf = optF T fs[f]? Kf := field_struct fs 1 f Kf
theorem sure_eref (fr : Bool) (c : List PV) (o : Nat) (A : Prop) : sureK rw (.eref fr c o) (kk A) = A := (rfl)
theorem sure_clo (f : FuncId) (c : List PV) (A : Prop) : sureK rw (.clo f c) (kk A) = A := (rfl)
def sureRow (r : Row) (ver : Nat) (A : Prop) : Prop := r.ver = ver ∧ r.kind.nd = true ∧ A
theorem sure_ref (j ver o : Nat) (A : Prop) : sureK rw (.ref j ver o) A = sureRow (rw j) ver A := (rfl)
theorem sureRow_box (ver : Nat) (bt : TypeId) (c : List PV) (A : Prop) : sureRow ⟨ver, .box bt c⟩ ver (kk A) = A := by simp [sureRow, RK.nd, kk]
theorem isPtr_ref (j v o : Nat) : isPtr (.ref j v o) = true := (rfl)
theorem isPtr_eref (fr : Bool) (c : List PV) (o : Nat) : isPtr (.eref fr c o) = true := (rfl)
theorem shift_ref (j v o d : Nat) : shiftP (.ref j v o) d = .ref j v (o + d) := (rfl)
theorem shift_eref (fr : Bool) (c : List PV) (o d : Nat) : shiftP (.eref fr c o) d = .eref fr c (o + d) := (rfl)
def convD (kd kd2 : TK) (x : PV) (K : PV → Prop) : Prop := match kd, kd2, x with
  | .int _, .int k, .v (.int _ n) => K (.v (.int k (k.wrap n)))
  | .str, .str, .v (.string s) => K (.v (.string s))
  | _, _, _ => False
theorem conv_int {a b : TypeId} {k : IntKind} (n : Int) (h1 : (T a).k.isInt = true) (h2 : (T b).k.isInt = true) (h3 : 0 < (T a).size) (h4 : 0 < (T b).size) : convK T rw a b (.v (.int k n)) Kp = convD (T a).k (T b).k (.v (.int k n)) Kp := by
  revert h1 h2
  simp only [convK, convD, h3, h4, true_and]
  cases (T a).k <;> simp [TK.isInt]
  cases (T b).k <;> simp [TK.isInt]
theorem convD_int (k1 k2 k : IntKind) (n : Int) : convD (.int k1) (.int k2) (.v (.int k n)) Kp = Kp (.v (.int k2 (k2.wrap n))) := (rfl)
theorem conv_str {a b : TypeId} (n : ByteArray) (h1 : (T a).k = .str) (h2 : (T b).k = .str) (h3 : 0 < (T a).size) (h4 : 0 < (T b).size) : convK T rw a b (.v (.string n)) Kp = Kp (.v (.string n)) := by
  simp [convK, h1, h2, h3, h4]
theorem index_str {t : TypeId} {k : IntKind} (b : ByteArray) (n : Int) (h0 : (T t).k = .str) (h1 : 0 < (T t).size) : indexK T t (.v (.string b)) (.v (.int k n)) Kp = (0 ≤ n ∧ n.toNat < b.size ∧ Kp (.v (.int .u8 ((b.data.toList.getD n.toNat 0).toNat : Int)))) := by
  simp [indexK, h0, h1]
theorem minmax_max (k k' : IntKind) (a b : Int) : minmaxK true (.v (.int k a)) (.v (.int k' b)) Kp = Kp (.v (.int k (if b > a then b else a))) := (rfl)
theorem minmax_min (k k' : IntKind) (a b : Int) : minmaxK false (.v (.int k a)) (.v (.int k' b)) Kp = Kp (.v (.int k (if b < a then b else a))) := (rfl)
def intK (p : PV) (K : Int → Prop) : Prop := match p with | .v (.int _ n) => K n | _ => False
theorem intK_int (k : IntKind) (n : Int) (Ki : Int → Prop) : intK (.v (.int k n)) Ki = Ki n := (rfl)
def sliD (T : Tab) (rw : Nat → Row) (ev : Operand → PV) (kd : TK) (z : Nat) (x : PV) (lo hi mx : Option Operand) (K : PV → Prop) : Prop :=
  0 < z ∧ match kd with
  | .str => mx = none ∧ (match x with
      | .v (.string s) => bndK ev lo 0 fun l => bndK ev hi s.size fun h => 0 ≤ l ∧ l ≤ h ∧ h ≤ s.size ∧ K (.v (.string (s.extract l.toNat h.toNat)))
      | _ => False)
  | .sli e => slFzK rw x fun fr sz c => 0 < (T e).size ∧ sz = (T e).size ∧
      bndK ev lo 0 fun l => bndK ev hi ((c.length / sz : Nat) : Int) fun h => bndK ev mx ((c.length / sz : Nat) : Int) fun m => 0 ≤ l ∧ l ≤ h ∧ h ≤ m ∧ m ≤ ((c.length / sz : Nat) : Int) ∧ (hi = none → mx = none) ∧
        K (.sl fr sz ((c.take (h.toNat * sz)).drop (l.toNat * sz)))
  | _ => False
theorem sli_eq (t : TypeId) (ev : Operand → PV) (x : PV) (lo hi mx : Option Operand) : sliceK T rw ev t x lo hi mx Kp = sliD T rw ev (T t).k (T t).size x lo hi mx Kp := (rfl)
theorem sli_from {e : TypeId} (fr : Bool) (c : List PV) (x : Operand) (h2 : (T e).size = 1) : sliD T rw s.ev (.sli e) 1 (.sl fr 1 c) (some x) none none Kp = intK (s.ev x) (kk fun l => 0 ≤ l ∧ l ≤ (c.length : Int) ∧ Kp (.sl fr 1 (c.drop l.toNat))) := by
  simp only [sliD, slFzK, bndK, h2, intK, kk]
  cases s.ev x <;> simp
  rename_i v
  cases v <;> simp
theorem sli_upto {e : TypeId} (fr : Bool) (c : List PV) (x : Operand) (h2 : (T e).size = 1) : sliD T rw s.ev (.sli e) 1 (.sl fr 1 c) none (some x) none Kp = intK (s.ev x) (kk fun l => 0 ≤ l ∧ l ≤ (c.length : Int) ∧ Kp (.sl fr 1 (c.take l.toNat))) := by
  simp only [sliD, slFzK, bndK, h2, intK, kk]
  cases s.ev x <;> simp
  rename_i v
  cases v <;> simp
theorem sli_both {e : TypeId} (fr : Bool) (c : List PV) (x y : Operand) (h2 : (T e).size = 1) : sliD T rw s.ev (.sli e) 1 (.sl fr 1 c) (some x) (some y) none Kp = intK (s.ev x) (kk fun l => intK (s.ev y) (kk fun h => 0 ≤ l ∧ l ≤ h ∧ h ≤ (c.length : Int) ∧ Kp (.sl fr 1 ((c.take h.toNat).drop l.toNat)))) := by
  simp only [sliD, slFzK, bndK, h2, intK, kk]
  cases s.ev x <;> simp
  rename_i v
  cases v <;> simp
  rename_i q n
  cases s.ev y <;> try simp
  rename_i v
  cases v <;> try simp
theorem sli_all {e : TypeId} (fr : Bool) (c : List PV) (h2 : (T e).size = 1) : sliD T rw s.ev (.sli e) 1 (.sl fr 1 c) none none none Kp = Kp (.sl fr 1 c) := by
  simp only [sliD, slFzK, bndK, h2]
  simp
theorem str_from (b : ByteArray) (x : Operand) : sliD T rw s.ev .str 1 (.v (.string b)) (some x) none none Kp = intK (s.ev x) (kk fun l => 0 ≤ l ∧ l ≤ (b.size : Int) ∧ Kp (.v (.string (b.extract l.toNat b.size)))) := by
  simp only [sliD, bndK, intK, kk]
  cases s.ev x <;> simp
  rename_i v
  cases v <;> simp
theorem str_upto (b : ByteArray) (x : Operand) : sliD T rw s.ev .str 1 (.v (.string b)) none (some x) none Kp = intK (s.ev x) (kk fun h => 0 ≤ h ∧ h ≤ (b.size : Int) ∧ Kp (.v (.string (b.extract 0 h.toNat)))) := by
  simp only [sliD, bndK, intK, kk]
  cases s.ev x <;> simp
  rename_i v
  cases v <;> simp
theorem str_both (b : ByteArray) (x y : Operand) : sliD T rw s.ev .str 1 (.v (.string b)) (some x) (some y) none Kp = intK (s.ev x) (kk fun l => intK (s.ev y) (kk fun h => 0 ≤ l ∧ l ≤ h ∧ h ≤ (b.size : Int) ∧ Kp (.v (.string (b.extract l.toNat h.toNat))))) := by
  simp only [sliD, bndK, intK, kk]
  cases s.ev x <;> simp
  rename_i v
  cases v <;> simp
  rename_i q n
  cases s.ev y <;> try simp
  rename_i v
  cases v <;> try simp
def sliOwn (T : Tab) (r : Row) (k ver : Nat) (ev : Operand → PV) (e z : Nat) (rw : Nat → Row) (lo hi mx : Option Operand) (K : PV → Prop) : Prop :=
  k < 1000000 ∧ r.ver = ver ∧ match r.kind with | .sli _ sz true c => sliD T rw ev (.sli e) z (.sl true sz c) lo hi mx K | _ => False
theorem sli_own (e z k ver : Nat) (lo hi mx : Option Operand) : sliD T rw s.ev (.sli e) z (.own k ver) lo hi mx Kp = sliOwn T (rw k) k ver s.ev e z rw lo hi mx Kp := by
  have el : (k < lent) = (k < 1000000) := rfl
  simp only [sliD, slFzK, sliOwn, el]
  cases (rw k).kind with
  | sli e' sz fz c =>
    cases fz <;> simp
    refine ⟨fun ⟨a, b, c, d, h⟩ => ⟨b, c, a, d, h⟩, fun ⟨b, c, a, d, h⟩ => ⟨a, b, c, d, h⟩⟩
  | _ => simp
theorem sliOwn_sli (e z k ver e' sz : Nat) (rw' : Nat → Row) (c : List PV) (lo hi mx : Option Operand) : sliOwn T ⟨ver, .sli e' sz true c⟩ k ver s.ev e z rw' lo hi mx Kp = (k < 1000000 ∧ sliD T rw' s.ev (.sli e) z (.sl true sz c) lo hi mx Kp) := by simp [sliOwn]
theorem sliK_sl {Kf : List Nat → PV → Prop} (t : TypeId) (fr : Bool) (z : Nat) (c : List PV) (lo hi mx : Option Operand) : sliK T s t (.sl fr z c) lo hi mx (kk Kf) = sliceK T s.rw s.ev t (.sl fr z c) lo hi mx (kk fun p => Kf [] p) := (rfl)
theorem sliK_v {Kf : List Nat → PV → Prop} (t : TypeId) (x : Value) (lo hi mx : Option Operand) : sliK T s t (.v x) lo hi mx (kk Kf) = sliceK T s.rw s.ev t (.v x) lo hi mx (kk fun p => Kf [] p) := (rfl)
def sliRow (T : Tab) (s : St) (t : TypeId) (r : Row) (k ver : Nat) (lo hi mx : Option Operand) (K : List Nat → PV → Prop) : Prop :=
  match r.kind with
  | .sli _ _ false _ => sliceK T (s.freeze [k]).rw s.ev t (.own k ver) lo hi mx (kk fun p => K [k] p)
  | _ => sliceK T s.rw s.ev t (.own k ver) lo hi mx (kk fun p => K [] p)
theorem sliK_own {Kf : List Nat → PV → Prop} (t : TypeId) (k ver : Nat) (lo hi mx : Option Operand) : sliK T s t (.own k ver) lo hi mx (kk Kf) = sliRow T s t (s.rw k) k ver lo hi mx (kk Kf) := (rfl)
theorem sliRow_live {Kf : List Nat → PV → Prop} (t : TypeId) (v e z : Nat) (c : List PV) (k ver : Nat) (lo hi mx : Option Operand) : sliRow T s t ⟨v, .sli e z false c⟩ k ver lo hi mx (kk Kf) = sliceK T (s.freeze [k]).rw s.ev t (.own k ver) lo hi mx (kk fun p => Kf [k] p) := (rfl)
theorem sliRow_fz {Kf : List Nat → PV → Prop} (t : TypeId) (v e z : Nat) (c : List PV) (k ver : Nat) (lo hi mx : Option Operand) : sliRow T s t ⟨v, .sli e z true c⟩ k ver lo hi mx (kk Kf) = sliceK T s.rw s.ev t (.own k ver) lo hi mx (kk fun p => Kf [] p) := (rfl)
theorem cells_v {Kc : List PV → Prop} (x : Value) (h : x.oneCell' = true) : cellsK rw (.v x) Kc = Kc [.v x] := by simp [cellsK, h]
theorem cells_ag {Kc : List PV → Prop} (c : List PV) : cellsK rw (.ag c) Kc = Kc c := (rfl)
theorem cells_sl {Kc : List PV → Prop} (fr : Bool) (sz : Nat) (c : List PV) : cellsK rw (.sl fr sz c) Kc = Kc [.sl fr sz c] := (rfl)
theorem cells_clo {Kc : List PV → Prop} (f : FuncId) (c : List PV) : cellsK rw (.clo f c) Kc = Kc [.clo f c] := (rfl)
def ownRow (r : Row) (ver : Nat) (A : Prop) : Prop := r.ver = ver ∧ r.kind.slice = true ∧ A
theorem cells_own {Kc : List PV → Prop} (j ver : Nat) : cellsK rw (.own j ver) Kc = ownRow (rw j) ver (kk (Kc [.own j ver])) := (rfl)
theorem ownRow_sli (ver e sz : Nat) (fz : Bool) (c : List PV) (A : Prop) : ownRow ⟨ver, .sli e sz fz c⟩ ver (kk A) = A := by simp [ownRow, RK.slice, kk]
theorem ownRow_tab (ver e : Nat) (c : List PV) (A : Prop) : ownRow ⟨ver, .tab e c⟩ ver (kk A) = A := by simp [ownRow, RK.slice, kk]
theorem cells_ref {Kc : List PV → Prop} (j ver o : Nat) : cellsK rw (.ref j ver o) Kc = sureRow (rw j) ver (kk (Kc [.ref j ver o])) := (rfl)
theorem pure_v {Kc : List PV → List Nat → Prop} (x : Value) (h : x.oneCell' = true) : pureK rw (.v x) Kc = Kc [.v x] [] := by simp [pureK, h]
theorem pure_sl {Kc : List PV → List Nat → Prop} (sz : Nat) (c : List PV) : pureK rw (.sl true sz c) Kc = Kc [.sl false sz c] [] := by simp [pureK]
theorem pure_ag {Kc : List PV → List Nat → Prop} (c : List PV) : pureK rw (.ag c) Kc = ((∀ x ∈ c, isV x = true) ∧ Kc c []) := (rfl)
def pureRow (r : Row) (k ver : Nat) (K : List PV → List Nat → Prop) : Prop := r.ver = ver ∧ k < lent ∧ (match r.kind with | .nil => K [.sl false 1 []] [] | .sli _ sz _ c => K [.sl false sz c] [k] | _ => False)
theorem pure_own {Kc : List PV → List Nat → Prop} (j ver : Nat) : pureK rw (.own j ver) Kc = pureRow (rw j) j ver Kc := (rfl)
theorem pureRow_sli {Kc : List PV → List Nat → Prop} (j ver e sz : Nat) (fz : Bool) (c : List PV) (h : j < lent) : pureRow ⟨ver, .sli e sz fz c⟩ j ver Kc = Kc [.sl false sz c] [j] := by simp [pureRow, h]
def allP (rw : Nat → Row) (l : List PV) : Prop := ∀ p ∈ l, oneP rw p
theorem allP_eq (rw : Nat → Row) (l : List PV) : (∀ p ∈ l, oneP rw p) = allP rw l := (rfl)
theorem allP_nil (rw : Nat → Row) : allP rw [] = True := by simp [allP]
theorem allP_cons (rw : Nat → Row) (p : PV) (l : List PV) : allP rw (p :: l) = (oneP rw p ∧ allP rw l) := by simp [allP]
def storeD (s : St) (z j ver off : Nat) (r : Row) (x : PV) (K : St → Prop) : Prop := 0 < z ∧ r.ver = ver ∧ match r.kind with
    | .box bt c => cellsK s.rw x fun new => new.length = z ∧ off + new.length ≤ c.length ∧ allP s.rw new ∧ K (s.row j ⟨ver, .box bt (spl c off new)⟩)
    | .sli e sz false c => pureK s.rw x fun new fz => new.length = z ∧ off + new.length ≤ c.length ∧ j ∉ fz ∧ K ((s.freeze fz).row j ⟨ver, .sli e sz false (spl c off new)⟩)
    | .tab e c => cellsK s.rw x fun new => new.length = z ∧ off + new.length ≤ c.length ∧ allP s.rw new ∧ K (s.row j ⟨ver, .tab e (spl c off new)⟩)
    | _ => False
theorem store_tab (j ver off e : Nat) (c : List PV) (x : PV) : storeD s 1 j ver off ⟨ver, .tab e c⟩ x K = cellsK s.rw x (kk fun new => new.length = 1 ∧ off + new.length ≤ c.length ∧ allP s.rw new ∧ K (s.row j ⟨ver, .tab e (spl c off new)⟩)) := by
  simp only [storeD, Nat.one_pos, true_and, kk]
theorem store_eq (t : TypeId) (j ver off : Nat) (x : PV) : storeK T s t (.ref j ver off) x K = storeD s (T t).size j ver off (s.rw j) x K := (rfl)
theorem freeze_none [Held] : s.freeze [] = s := St.freeze_nil s
theorem store_sli (j ver off e sz : Nat) (c : List PV) (x : PV) : storeD s 1 j ver off ⟨ver, .sli e sz false c⟩ x K = pureK s.rw x (kk fun new fz => new.length = 1 ∧ off + new.length ≤ c.length ∧ j ∉ fz ∧ K ((s.freeze fz).row j ⟨ver, .sli e sz false (spl c off new)⟩)) := by
  simp only [storeD, Nat.one_pos, true_and, kk]
theorem store_box (z j ver off : Nat) (bt : TypeId) (c : List PV) (x : PV) : storeD s (z + 1) j ver off ⟨ver, .box bt c⟩ x K = cellsK s.rw x (kk fun new => new.length = z + 1 ∧ off + new.length ≤ c.length ∧ allP s.rw new ∧ K (s.row j ⟨ver, .box bt (spl c off new)⟩)) := by
  simp only [storeD, Nat.zero_lt_succ, true_and, kk]
theorem store_box1 [Held] (j ver off : Nat) (bt : TypeId) (c : List PV) (x : PV) : storeD s 1 j ver off ⟨ver, .box bt c⟩ x K = cellsK s.rw x (kk fun new => new.length = 1 ∧ off + new.length ≤ c.length ∧ allP s.rw new ∧ K (s.row j ⟨ver, .box bt (spl c off new)⟩)) := store_box 0 j ver off bt c x
theorem store_box2 [Held] (j ver off : Nat) (bt : TypeId) (c : List PV) (x : PV) : storeD s 2 j ver off ⟨ver, .box bt c⟩ x K = cellsK s.rw x (kk fun new => new.length = 2 ∧ off + new.length ≤ c.length ∧ allP s.rw new ∧ K (s.row j ⟨ver, .box bt (spl c off new)⟩)) := store_box 1 j ver off bt c x
theorem oneP_v (rw : Nat → Row) (v : Value) : oneP rw (.v v) = (v.oneCell' = true) := (rfl)
theorem oneP_sl (rw : Nat → Row) (fr : Bool) (z : Nat) (c : List PV) : oneP rw (.sl fr z c) = True := (rfl)
theorem oneP_eref (rw : Nat → Row) (fr : Bool) (c : List PV) (o : Nat) : oneP rw (.eref fr c o) = True := (rfl)
theorem oneP_clo (rw : Nat → Row) (f : FuncId) (c : List PV) : oneP rw (.clo f c) = True := (rfl)
theorem oneP_own (rw : Nat → Row) (j v : Nat) : oneP rw (.own j v) = ownRow (rw j) v (kk True) := by simp [oneP, ownRow, kk]
theorem oneP_ref (rw : Nat → Row) (j v o : Nat) : oneP rw (.ref j v o) = sureRow (rw j) v (kk True) := by simp [oneP, sureRow, kk]
theorem store_box3 [Held] (j ver off : Nat) (bt : TypeId) (c : List PV) (x : PV) : storeD s 3 j ver off ⟨ver, .box bt c⟩ x K = cellsK s.rw x (kk fun new => new.length = 3 ∧ off + new.length ≤ c.length ∧ allP s.rw new ∧ K (s.row j ⟨ver, .box bt (spl c off new)⟩)) := store_box 2 j ver off bt c x
theorem store_box4 [Held] (j ver off : Nat) (bt : TypeId) (c : List PV) (x : PV) : storeD s 4 j ver off ⟨ver, .box bt c⟩ x K = cellsK s.rw x (kk fun new => new.length = 4 ∧ off + new.length ≤ c.length ∧ allP s.rw new ∧ K (s.row j ⟨ver, .box bt (spl c off new)⟩)) := store_box 3 j ver off bt c x
def newsK (T : Tab) (rw : Nat → Row) (y : PV) (K : List PV → Prop) : Prop := slK rw y fun fr sz news => sz = 1 ∧ ((∀ p ∈ news, isV p = true) ∨ (fr = true ∧ ∀ p ∈ news, oneQ p = true)) ∧ K news
def appRow (T : Tab) (s : St) (d j ver e : Nat) (r : Row) (news : List PV) (K : St → Prop) : Prop := r.ver = ver ∧ match r.kind with
  | .nil => news.length * (T e).bytes ≤ 140737488355328 ∧ K (appSt s d j (.sli e 1 false news))
  | .sli e' sz' false c => e' = e ∧ sz' = 1 ∧ (c.length + news.length) * (T e).bytes ≤ 140737488355328 ∧ K (appSt s d j (.sli e 1 false (c ++ news)))
  | _ => False
def appX (T : Tab) (s : St) (d e : Nat) (x : PV) (news : List PV) (K : St → Prop) : Prop := match x with
  | .v u => isNil u = true ∧ news.length * (T e).bytes ≤ 140737488355328 ∧ K (newSt s d (.sli e 1 false news) (fun v => .own d v))
  | .own j ver => appRow T s d j ver e (s.rw j) news K
  | _ => False
def appD (T : Tab) (s : St) (d : Nat) (kd : TK) (z : Nat) (x y : PV) (K : St → Prop) : Prop :=
  0 < z ∧ match kd with
  | .sli e => 0 < (T e).size ∧ 0 < (T e).bytes ∧ slK s.rw y fun fr sz news => sz = (T e).size ∧ ((∀ p ∈ news, isV p = true) ∨ (fr = true ∧ ∀ p ∈ news, oneQ p = true)) ∧
      (match x with
      | .v u => isNil u = true ∧ news.length * (T e).bytes ≤ 140737488355328 ∧ K (newSt s d (.sli e (T e).size false news) (fun v => .own d v))
      | .own k ver => (s.rw k).ver = ver ∧ (match (s.rw k).kind with
          | .nil => news.length * (T e).bytes ≤ 140737488355328 ∧ K (appSt s d k (.sli e (T e).size false news))
          | .sli e' sz' false c => e' = e ∧ sz' = (T e).size ∧ (c.length + news.length) * (T e).bytes ≤ 140737488355328 ∧ K (appSt s d k (.sli e (T e).size false (c ++ news)))
          | _ => False)
      | _ => False)
  | _ => False
theorem append_eq (d : Nat) (t : TypeId) (x y : PV) : appendK T s d t t x y K = appD T s d (T t).k (T t).size x y K := propext ⟨fun h => h.2, fun h => ⟨rfl, h⟩⟩
theorem appD_sli {d e : Nat} (x y : PV) (h2 : (T e).size = 1) (h3 : 0 < (T e).bytes) : appD T s d (.sli e) 1 x y K = newsK T s.rw y (kk fun news => appX T s d e x news (kk K)) := by
  unfold appD newsK
  simp only [h2, h3, true_and, kk, Nat.one_pos]
  unfold appX appRow
  cases x <;> rfl
theorem appX_own (d e j ver : Nat) (news : List PV) : appX T s d e (.own j ver) news K = appRow T s d j ver e (s.rw j) news K := (rfl)
theorem appX_nil (d e : Nat) (news : List PV) : appX T s d e (.v (.slice none 0 0)) news K = (news.length * (T e).bytes ≤ 140737488355328 ∧ K (newSt s d (.sli e 1 false news) (fun v => .own d v))) := by simp [appX, isNil]
theorem appRow_sli (d j ver e : Nat) (c news : List PV) : appRow T s d j ver e ⟨ver, .sli e 1 false c⟩ news K = ((c.length + news.length) * (T e).bytes ≤ 140737488355328 ∧ K (appSt s d j (.sli e 1 false (c ++ news)))) := by simp [appRow]
theorem appRow_nil (d j ver e : Nat) (news : List PV) : appRow T s d j ver e ⟨ver, .nil⟩ news K = (news.length * (T e).bytes ≤ 140737488355328 ∧ K (appSt s d j (.sli e 1 false news))) := by simp [appRow]
variable {Kc : List PV → Prop}
theorem news_v (c : List PV) (h : ∀ p ∈ c, isV p = true) (fr : Bool) : newsK T rw (.sl fr 1 c) Kc = Kc c := by
  have e : (∀ p ∈ c, isV p = true) = True := eq_true h
  simp only [newsK, slK, e, true_or, true_and]
theorem news_iL [Held] (xs : List Int) (fr : Bool) : newsK T rw (.sl fr 1 (iL xs)) Kc = Kc (iL xs) := news_v _ (by simpa using iL_isV xs) fr
theorem news_kL [Held] (k : IntKind) (xs : List Int) (fr : Bool) : newsK T rw (.sl fr 1 (kL k xs)) Kc = Kc (kL k xs) := news_v _ (by simpa using kL_isV k xs) fr
theorem news_sL [Held] (xs : List ByteArray) (fr : Bool) : newsK T rw (.sl fr 1 (sL xs)) Kc = Kc (sL xs) := news_v _ (by simpa using sL_isV xs) fr
theorem news_iLL [Held] (xs : List (List Int)) : newsK T rw (.sl true 1 (iLL xs)) Kc = Kc (iLL xs) := by
  have : ∀ p ∈ iLL xs, oneQ p = true := by simpa using iLL_oneQ xs
  simp only [newsK, slK, true_and, true_or, eq_true this, or_true]
def allQ (c : List PV) : Prop := ∀ p ∈ c, oneQ p = true
def nwRow (r : Row) (ver : Nat) (K : List PV → Prop) : Prop := r.ver = ver ∧ match r.kind with | .nil => K [] | .sli _ sz _ c => sz = 1 ∧ allQ c ∧ K c | _ => False
theorem news_ownR (j ver : Nat) : newsK T rw (.own j ver) Kc = nwRow (rw j) ver Kc := by
  unfold newsK slK nwRow
  dsimp only
  generalize (rw j).kind = kd
  cases kd with
  | sli e sz fz c =>
    dsimp only
    refine propext ⟨fun ⟨a, b, h, d⟩ => ⟨a, b, ?_, d⟩, fun ⟨a, b, h, d⟩ => ⟨a, b, .inr ⟨rfl, h⟩, d⟩⟩
    rcases h with h | h
    · intro p hp
      have := h p hp
      cases p <;> simp [isV] at this
      exact this
    · exact h.2
  | nil => simp
  | _ => simp
theorem nwRow_sli (ver e : Nat) (fz : Bool) (c : List PV) : nwRow ⟨ver, .sli e 1 fz c⟩ ver Kc = (allQ c ∧ Kc c) := by simp [nwRow]
theorem nwRow_nil (ver : Nat) : nwRow ⟨ver, .nil⟩ ver Kc = Kc [] := by simp [nwRow]
theorem allQ_nil : allQ [] = True := by simp [allQ]
theorem allQ_iL (xs : List Int) : allQ (iL xs) = True := by simp [allQ, iL, oneQ, Value.oneCell']
theorem allQ_kL (k : IntKind) (xs : List Int) : allQ (kL k xs) = True := by simp [allQ, kL, oneQ, Value.oneCell']
theorem allQ_sL (xs : List ByteArray) : allQ (sL xs) = True := by simp [allQ, sL, oneQ, Value.oneCell']
theorem allQ_bL (xs : List Bool) : allQ (bL xs) = True := eq_true fun p hp => by
  simp only [bL, List.mem_map] at hp
  obtain ⟨x, _, rfl⟩ := hp
  rfl
theorem allQ_iLL (xs : List (List Int)) : allQ (iLL xs) = True := by simp [allQ, iLL, oneQ]
theorem nodup_one (j : Nat) : [j].Nodup = True := by simp
theorem nodup_two (i j : Nat) : [i, j].Nodup = (i ≠ j) := by simp
theorem lt_lent (j : Nat) : (j < lent) = (j < 1000000) := (rfl)
theorem out_v (v u : Value) {Kn : List Nat → Prop} : out2 rw (.v v) (.im (.v u)) Kn = (PV.v u = PV.v v ∧ Kn []) := (rfl)
def outRow (r : Row) (j ver e sz : Nat) (c : List PV) (K : List Nat → Prop) : Prop := j < lent ∧ r.ver = ver ∧ (match r.kind with
          | .nil => c = [] ∧ K []
          | .sli e' sz' false c' => e' = e ∧ sz' = sz ∧ c' = c ∧ K [j]
          | _ => False)
theorem out_own (j ver e sz : Nat) (c : List PV) {Kn : List Nat → Prop} : out2 rw (.own j ver) (.fr e sz c) Kn = outRow (rw j) j ver e sz c Kn := (rfl)
theorem outRow_sli (j ver e sz : Nat) (c c' : List PV) {Kn : List Nat → Prop} (h : j < lent) : outRow ⟨ver, .sli e sz false c'⟩ j ver e sz c Kn = (c' = c ∧ Kn [j]) := by simp [outRow, h]
theorem retK_one {t : Nat} {rv : RV} : retK T s [.tmp t] rv = out2 s.rw (s.sl t) rv List.Nodup := (rfl)
theorem retK_cell {a : Nat} {t : TypeId} {rv : RV} : retK T s [.cell a t] rv = ptrK s.rw (s.sl a) (kk fun m c off => ldK T t m c off (kk fun p => out2 s.rw p rv List.Nodup)) := (rfl)
theorem retK_two {r1 r2 : ResultVar} {rv : RV} : retK T s [r1, r2] rv = resL T s [r1, r2] (kk fun ps => out2 s.rw (.tup ps) rv List.Nodup) := (rfl)
theorem retK_three {r1 r2 r3 : ResultVar} {rv : RV} : retK T s [r1, r2, r3] rv = resL T s [r1, r2, r3] (kk fun ps => out2 s.rw (.tup ps) rv List.Nodup) := (rfl)
theorem resL_nil (Kr : List PV → Prop) : resL T s [] (kk Kr) = Kr [] := (rfl)
theorem resL_tmp (t : Nat) (rs : List ResultVar) (Kr : List PV → Prop) : resL T s (.tmp t :: rs) (kk Kr) = evK (s.sl t) (kk fun p => resL T s rs (kk fun ps => Kr (p :: ps))) := (rfl)
theorem resL_cell (a : Nat) (t : TypeId) (rs : List ResultVar) (Kr : List PV → Prop) : resL T s (.cell a t :: rs) (kk Kr) = ptrK s.rw (s.sl a) (kk fun m c off => ldK T t m c off (kk fun p => resL T s rs (kk fun ps => Kr (p :: ps)))) := (rfl)
theorem out2_nil (e sz : Nat) (c : List PV) {Kn : List Nat → Prop} : out2 rw (.v (.slice none 0 0)) (.fr e sz c) Kn = (c = [] ∧ Kn []) := by simp [out2, out0, isNil]
theorem out1_nil (e sz : Nat) (c : List PV) {Kn : List Nat → Prop} : out1 rw (.v (.slice none 0 0)) (.fr e sz c) Kn = (c = [] ∧ Kn []) := by simp [out1, out0, isNil]
theorem out0_nil (e sz : Nat) (c : List PV) {Kn : List Nat → Prop} : out0 rw (.v (.slice none 0 0)) (.fr e sz c) Kn = (c = [] ∧ Kn []) := by simp [out0, isNil]
theorem adopt_tafv [Held] (d e sz : Nat) (y : Value) (c : List PV) : adoptSt s d (.tup [.ag [.fr e sz c], .im (.v y)]) = (s.row d ⟨(s.rw d).ver + 1, .sli e sz false c⟩).put (some d) (.tup [.ag [.own d ((s.rw d).ver + 1)], .v y]) := by
  unfold adoptSt
  simp [leaves_tup, leaves_ag, leaves, addRows, adopt2, adopt1, adopt0, adoptL, leafId, St.row, setIf]
  rfl
theorem adopt_tagv [Held] (d e sz : Nat) (x y : Value) (c : List PV) : adoptSt s d (.tup [.ag [.im (.v x), .fr e sz c], .im (.v y)]) = (s.row d ⟨(s.rw d).ver + 1, .sli e sz false c⟩).put (some d) (.tup [.ag [.v x, .own d ((s.rw d).ver + 1)], .v y]) := by
  unfold adoptSt
  simp [leaves_tup, leaves_ag, leaves, addRows, adopt2, adopt1, adopt0, adoptL, leafId, St.row, setIf]
  rfl
theorem adopt_tgv [Held] (d e sz : Nat) (y : Value) (c : List PV) : adoptSt s d (.tup [.ag [.fr e sz c], .im (.v y)]) = (s.row d ⟨(s.rw d).ver + 1, .sli e sz false c⟩).put (some d) (.tup [.ag [.own d ((s.rw d).ver + 1)], .v y]) := by
  unfold adoptSt
  simp [leaves_tup, leaves_ag, leaves, addRows, adopt2, adopt1, adopt0, adoptL, leafId, St.row, setIf]
  rfl
theorem adopt_im (d : Nat) (v : Value) : adoptSt s d (.im (.v v)) = s.put (some d) (.v v) := by
  unfold adoptSt
  simp [leaves, addRows, adopt2, adopt0, setIf]
theorem askDC_of [Held] {f : FuncId} {raw lent : List PV} {k d : Nat} {x : Value} {r : Row} {Ke : Ent → St → Prop} {Ka : RV → Prop} {us : Dm s} {u : Dm Ke} (rd : List Nat) (h : ∀ s' : St, s'.rw k = s.rw k → (∀ a ∈ rd, s'.rw a = s.rw a) → ∀ K' : St → Prop, K' ((s'.row k r).put (some d) (.v x)) → askG P s' f raw (some d) K') (hd : d % 1000 ≠ k % 1000)
    (hk : Ke ⟨rd, .ids [d, k]⟩ ((s.row k r).put (some d) (.v x))) : askK P f lent Ka (askD P f raw d (kk s us) (kk Ke u)) :=
  askDR_of (x := .im (.v x)) (r := r) rd (fun s' h1 h2 K' hk' => h s' h1 h2 K' (by rw [adopt_im] at hk'; exact hk')) hd (by rw [adopt_im]; exact hk)
theorem adopt_fr (d e sz : Nat) (c : List PV) : adoptSt s d (.fr e sz c) = (s.row d ⟨(s.rw d).ver + 1, .sli e sz false c⟩).put (some d) (.own d ((s.rw d).ver + 1)) := by
  unfold adoptSt
  simp [leaves, addRows, adopt2, adopt0, leafId, St.row]
  rfl
theorem adopt_ag1 [Held] (d e sz : Nat) (c : List PV) : adoptSt s d (.ag [.fr e sz c]) = (s.row d ⟨(s.rw d).ver + 1, .sli e sz false c⟩).put (some d) (.ag [.own d ((s.rw d).ver + 1)]) := by
  unfold adoptSt
  simp [leaves_ag, leaves, addRows, adopt2, adopt1, adoptL, adopt0, leafId, St.row]
  rfl
theorem adopt_ag2 [Held] (d e sz : Nat) (x : Value) (c : List PV) : adoptSt s d (.ag [.im (.v x), .fr e sz c]) = (s.row d ⟨(s.rw d).ver + 1, .sli e sz false c⟩).put (some d) (.ag [.v x, .own d ((s.rw d).ver + 1)]) := by
  unfold adoptSt
  simp [leaves_ag, leaves, addRows, adopt2, adopt1, adoptL, adopt0, leafId, St.row, setIf]
  rfl
theorem adopt_ag4 [Held] (d e sz e2 sz2 : Nat) (x y : Value) (c c2 : List PV) : adoptSt s d (.ag [.im (.v x), .fr e sz c, .im (.v y), .fr e2 sz2 c2]) =
    ((s.row (d + 1000) ⟨(s.rw (d + 1000)).ver + 1, .sli e2 sz2 false c2⟩).row d ⟨(s.rw d).ver + 1, .sli e sz false c⟩).put (some d) (.ag [.v x, .own d ((s.rw d).ver + 1), .v y, .own (d + 1000) ((s.rw (d + 1000)).ver + 1)]) := by
  unfold adoptSt
  simp [leaves_ag, leaves, addRows, adopt2, adopt1, adoptL, adopt0, leafId, St.row, setIf]
  rfl
theorem adopt_tvv [Held] (d : Nat) (x y : Value) : adoptSt s d (.tup [.im (.v x), .im (.v y)]) = s.put (some d) (.tup [.v x, .v y]) := by
  unfold adoptSt
  simp [leaves_tup, leaves, addRows, adopt2, adopt1, adoptL, adopt0, leafId, St.row, setIf]
theorem adopt_tfv [Held] (d e sz : Nat) (c : List PV) (y : Value) : adoptSt s d (.tup [.fr e sz c, .im (.v y)]) = (s.row d ⟨(s.rw d).ver + 1, .sli e sz false c⟩).put (some d) (.tup [.own d ((s.rw d).ver + 1), .v y]) := by
  unfold adoptSt
  simp [leaves_tup, leaves, addRows, adopt2, adopt1, adoptL, adopt0, leafId, St.row, setIf]
  rfl
theorem imm_ag [Held] (l : List RV) : (RV.ag l).imm = .ag (l.map RV.imm) := RV.imm_ag l
theorem imm_tup [Held] (l : List RV) : (RV.tup l).imm = .tup (l.map RV.imm) := RV.imm_tup l
theorem out2_ag (ps : List PV) (l : List RV) {Kn : List Nat → Prop} : out2 rw (.ag ps) (.ag l) Kn = outL (out1 rw) ps l Kn := (rfl)
theorem out2_tup (ps : List PV) (l : List RV) {Kn : List Nat → Prop} : out2 rw (.tup ps) (.tup l) Kn = outL (out1 rw) ps l Kn := (rfl)
theorem out1_ag (ps : List PV) (l : List RV) {Kn : List Nat → Prop} : out1 rw (.ag ps) (.ag l) Kn = outL (out0 rw) ps l Kn := (rfl)
theorem outL_nil (f : PV → RV → (List Nat → Prop) → Prop) {Kn : List Nat → Prop} : outL f [] [] Kn = Kn [] := (rfl)
theorem outL_cons (f : PV → RV → (List Nat → Prop) → Prop) (p : PV) (ps : List PV) (r : RV) (rs : List RV) {Kn : List Nat → Prop} : outL f (p :: ps) (r :: rs) Kn = f p r (kk fun a => outL f ps rs (kk fun b => Kn (a ++ b))) := (rfl)
theorem out1_v (v u : Value) {Kn : List Nat → Prop} : out1 rw (.v v) (.im (.v u)) Kn = (PV.v u = PV.v v ∧ Kn []) := (rfl)
theorem out0_tbnil (e e2 : Nat) (rows : List (List PV)) {Kn : List Nat → Prop} : out0 rw (.v (.slice none 0 0)) (.tb e e2 rows) (kk Kn) = (rows = [] ∧ Kn []) := by simp [out0, isNil, kk]
theorem out0_v (v u : Value) {Kn : List Nat → Prop} : out0 rw (.v v) (.im (.v u)) Kn = (PV.v u = PV.v v ∧ Kn []) := (rfl)
theorem out1_own (j ver e sz : Nat) (c : List PV) {Kn : List Nat → Prop} : out1 rw (.own j ver) (.fr e sz c) Kn = outRow (rw j) j ver e sz c Kn := (rfl)
theorem out0_own (j ver e sz : Nat) (c : List PV) {Kn : List Nat → Prop} : out0 rw (.own j ver) (.fr e sz c) Kn = outRow (rw j) j ver e sz c Kn := (rfl)
theorem imm_im (v : Value) : (RV.im (.v v)).imm = .v v := by simp [RV.imm, setIf]
theorem imm_fr (e sz : Nat) (c : List PV) : (RV.fr e sz c).imm = .sl true sz c := by simp [RV.imm]
theorem lend_int (rw : Nat → Row) (n : Nat) (k : IntKind) (x : Int) : lend rw (n + 1) (.v (.int k x)) = .v (.int k x) := (rfl)
theorem lend_bool (rw : Nat → Row) (n : Nat) (x : Bool) : lend rw (n + 1) (.v (.bool x)) = .v (.bool x) := (rfl)
theorem lend_string (rw : Nat → Row) (n : Nat) (x : ByteArray) : lend rw (n + 1) (.v (.string x)) = .v (.string x) := (rfl)
theorem lend_nil (rw : Nat → Row) (n : Nat) : lend rw (n + 1) (.v (.slice none 0 0)) = .sl false 1 [] := (rfl)
theorem lend_sl (rw : Nat → Row) (n : Nat) (fr : Bool) (sz : Nat) (c : List PV) : lend rw (n + 1) (.sl fr sz c) = .sl false sz c := (rfl)
theorem lend_ag (rw : Nat → Row) (n : Nat) (c : List PV) : lend rw (n + 1) (.ag c) = .ag (c.map (lend rw n)) := (rfl)
theorem lend_eref (rw : Nat → Row) (n : Nat) (fr : Bool) (c : List PV) (o : Nat) : lend rw (n + 1) (.eref fr c o) = .eref false c o := (rfl)
def lendRef (rw : Nat → Row) (n : Nat) (r : Row) (ver off : Nat) : PV := if r.ver = ver then (match r.kind with | .box _ c => .eref false (c.map (lend rw n)) off | .sli _ _ _ c => .eref false c off | _ => .junk) else .junk
theorem lend_ref (rw : Nat → Row) (n j ver off : Nat) : lend rw (n + 1) (.ref j ver off) = lendRef rw n (rw j) ver off := (rfl)
theorem lendRef_box (rw : Nat → Row) (n ver off : Nat) (t : TypeId) (c : List PV) : lendRef rw n ⟨ver, .box t c⟩ ver off = .eref false (c.map (lend rw n)) off := by simp [lendRef]
theorem lendRef_sli (rw : Nat → Row) (n ver off e z : Nat) (fz : Bool) (c : List PV) : lendRef rw n ⟨ver, .sli e z fz c⟩ ver off = .eref false c off := by simp [lendRef]
theorem lend_clo (rw : Nat → Row) (n : Nat) (f : FuncId) (c : List PV) : lend rw (n + 1) (.clo f c) = .clo f (c.map (lend rw n)) := (rfl)
def lendRow (rw : Nat → Row) (n : Nat) (r : Row) (ver : Nat) : PV := if r.ver = ver then (match r.kind with | .nil => .sl false 1 [] | .sli _ sz _ c => .sl false sz c | .tab _ c => .sl false 1 (c.map (lendC rw)) | _ => .junk) else .junk
theorem lend_own (rw : Nat → Row) (n j ver : Nat) : lend rw (n + 1) (.own j ver) = lendRow rw n (rw j) ver := (rfl)
theorem lendRow_tab (rw : Nat → Row) (n : Nat) (ver e : Nat) (c : List PV) : lendRow rw n ⟨ver, .tab e c⟩ ver = .sl false 1 (c.map (lendC rw)) := by simp [lendRow]
theorem lendRow_sli (rw : Nat → Row) (n : Nat) (ver e sz : Nat) (fz : Bool) (c : List PV) : lendRow rw n ⟨ver, .sli e sz fz c⟩ ver = .sl false sz c := by simp [lendRow]
theorem lendRow_nil (rw : Nat → Row) (n : Nat) (ver : Nat) : lendRow rw n ⟨ver, .nil⟩ ver = .sl false 1 [] := by simp [lendRow]
end
def lens0 : PV → Prop | .sl _ sz c => c.length ≤ 9223372036854775807 * sz | _ => True
def lens1 : PV → Prop | .sl _ sz c => c.length ≤ 9223372036854775807 * sz ∧ ∀ p ∈ c, lens0 p | .ag c => ∀ p ∈ c, lens0 p | .eref _ c _ => ∀ p ∈ c, lens0 p | _ => True
def lens2 : PV → Prop | .sl _ sz c => c.length ≤ 9223372036854775807 * sz ∧ ∀ p ∈ c, lens1 p | .ag c => ∀ p ∈ c, lens1 p | .eref _ c _ => ∀ p ∈ c, lens1 p | .clo _ c => ∀ p ∈ c, lens1 p | _ => True
def lens : List PV → Prop | [] => True | p :: ps => lens2 p ∧ lens ps
theorem lens0_of {w : World} {E : Env} {lo : Nat} {p : PV} {x : Value} (h : Rep w E lo p x) : lens0 p := by
  cases h <;> try trivial
  next sz len cap cells a cs hl hc hm hr hh =>
    show cells.length ≤ 9223372036854775807 * sz
    rw [hl]
    exact Nat.mul_le_mul_right _ (Nat.le_trans hc hm)
theorem lens1_of [Held] {w : World} {E : Env} {lo : Nat} {p : PV} {x : Value} (h : Rep w E lo p x) : lens1 p := by
  cases h <;> try trivial
  case sl fr sz len cap cells a cs hl hc hm hr hh =>
    refine ⟨?_, fun p hp => ?_⟩
    · rw [hl]; exact Nat.mul_le_mul_right _ (Nat.le_trans hc hm)
    · obtain ⟨i, hi, rfl⟩ := List.getElem_of_mem hp; exact lens0_of (hh i hi)
  case eref fr cells off b o cs hr hh => intro p hp; obtain ⟨i, hi, rfl⟩ := List.getElem_of_mem hp; exact lens0_of (hh i hi)
  case ag cells vs hl hh => intro p hp; obtain ⟨i, hi, rfl⟩ := List.getElem_of_mem hp; exact lens0_of (hh i hi (by omega))
theorem lens2_of [Held] {w : World} {E : Env} {lo : Nat} {p : PV} {x : Value} (h : Rep w E lo p x) : lens2 p := by
  cases h <;> try trivial
  case sl fr sz len cap cells a cs hl hc hm hr hh =>
    refine ⟨?_, fun p hp => ?_⟩
    · rw [hl]; exact Nat.mul_le_mul_right _ (Nat.le_trans hc hm)
    · obtain ⟨i, hi, rfl⟩ := List.getElem_of_mem hp; exact lens1_of (hh i hi)
  case eref fr cells off b o cs hr hh => intro p hp; obtain ⟨i, hi, rfl⟩ := List.getElem_of_mem hp; exact lens1_of (hh i hi)
  case ag cells vs hl hh => intro p hp; obtain ⟨i, hi, rfl⟩ := List.getElem_of_mem hp; exact lens1_of (hh i hi (by omega))
  case clo f cells vs hl hh => intro p hp; obtain ⟨i, hi, rfl⟩ := List.getElem_of_mem hp; exact lens1_of (hh i hi (by omega))
theorem lens_of [Held] {w : World} {E : Env} {lo : Nat} {ps : List PV} {vs : List Value} (h : RepL w E lo ps vs) : lens ps := by
  have : ∀ p ∈ ps, lens2 p := by
    intro p hp
    obtain ⟨i, hi, rfl⟩ := List.getElem_of_mem hp
    exact lens2_of (h.2 i hi (by rw [← h.1]; exact hi))
  clear h
  induction ps with
  | nil => trivial
  | cons p ps ih => exact ⟨this p (by simp), ih fun q hq => this q (by simp [hq])⟩
theorem lens_nil : lens [] = True := (rfl)
theorem lens_cons (p : PV) (ps : List PV) : lens (p :: ps) = (lens2 p ∧ lens ps) := (rfl)
theorem lens2_v (x : Value) : lens2 (.v x) = True := (rfl)
theorem lens1_v (x : Value) : lens1 (.v x) = True := (rfl)
theorem lens1_iL (fr : Bool) (xs : List Int) : lens1 (.sl fr 1 (iL xs)) = (xs.length ≤ 9223372036854775807) := by simp [lens1, lens0, iL]
theorem lens2_iL (fr : Bool) (xs : List Int) : lens2 (.sl fr 1 (iL xs)) = (xs.length ≤ 9223372036854775807) := by simp [lens2, lens1, iL]
theorem lens2_ag2 (x y : PV) : lens2 (.ag [x, y]) = (lens1 x ∧ lens1 y) := by simp [lens2]
theorem AC.go [Held] {f : FuncId} {fn : Func} {c : Code} {rs : List ResultVar} {args : List PV} {rv : RV} (hT : T.Ok P) (hm : P.follows .mixedOrders = true) (hf : P.funcs[f]? = some fn) (hname : (fn.name == "runtime.NumGoroutine") = false)
    (hb : fn.body = some c) (hr : fn.results.toList = rs) (hfit : (fits fn.ntmps c && decide (args.length ≤ fn.ntmps) && decide (fn.results.toList.length ≤ 4)) = true) (h : lens args → cwp P T c (endK T rs rv) (St.init args)) : AC P f args rv := by
  subst hr
  refine ⟨⟨fn, hf, hname, by rw [hb]; rfl⟩, fun w vals hphi hv => ?_⟩
  exact (AC.of hT hm hf hname hb hfit (h (lens_of hv))).2 w vals hphi hv
theorem AM.go [Held] {f : FuncId} {fn : Func} {c : Code} {rs : List ResultVar} {args : List PV} {ins : List LR} {outs : List (List PV)} {x : Value} (hT : T.Ok P) (hm : P.follows .mixedOrders = true) (hf : P.funcs[f]? = some fn) (hname : (fn.name == "runtime.NumGoroutine") = false)
    (hb : fn.body = some c) (hr : fn.results.toList = rs) (hfit : (fits fn.ntmps c && decide (args.length ≤ fn.ntmps) && decide (fn.results.toList.length ≤ 4)) = true) (hi : ∀ r ∈ ins, plain r.c) (ho : ∀ c ∈ outs, plain c) (hlen : outs.length = ins.length)
    (h : (∀ r ∈ ins, r.c.length ≤ 9223372036854775807 * r.sz) → cwp P T c (endM T rs ins outs x) (St.initM args ins)) : AM P f args ins outs x := by
  subst hr
  exact AM.of hT hm hf hname hb hfit hi ho hlen h
theorem plain_iL [Held] (xs : List Int) : plain (iL xs) := by have := iL_isV xs; unfold plain; rw [this]; trivial
theorem plain_sL [Held] (xs : List ByteArray) : plain (sL xs) := by have := sL_isV xs; unfold plain; rw [this]; trivial
theorem initM_sl (args : List PV) (ins : List LR) (i : Nat) : (St.initM args ins).sl i = args.getD i .junk := (rfl)
theorem initM_rw (args : List PV) (ins : List LR) (i : Nat) : (St.initM args ins).rw i = inR ins i := (rfl)
theorem inR_lo (ins : List LR) (k : Nat) (h : k < 1000000) : inR ins k = ⟨0, .dead⟩ := by
  unfold inR; rw [if_neg (by show ¬ (1000000 ≤ k); omega)]
theorem inR_0 [Held] (e sz : Nat) (c : List PV) (l : List LR) : inR (⟨e, sz, c⟩ :: l) 1000000 = ⟨1, .sli e sz false c⟩ := inR_at (ins := ⟨e, sz, c⟩ :: l) (i := 0) rfl
theorem inR_1 [Held] (r : LR) (e sz : Nat) (c : List PV) (l : List LR) : inR (r :: ⟨e, sz, c⟩ :: l) 1000001 = ⟨1, .sli e sz false c⟩ := inR_at (ins := r :: ⟨e, sz, c⟩ :: l) (i := 1) rfl
theorem endM_ret (rs : List ResultVar) (ins : List LR) (outs : List (List PV)) (x : Value) : endM T rs ins outs x .ret s = retM T s rs ins outs x := (rfl)
theorem endM_norm (rs : List ResultVar) (ins : List LR) (outs : List (List PV)) (x : Value) : endM T rs ins outs x .norm s = retM T s rs ins outs x := (rfl)
theorem retM_one (r : Nat) (ins : List LR) (outs : List (List PV)) (x : Value) : retM T s [.tmp r] ins outs x = (rowsM s.rw 0 ins outs ∧ s.sl r = .v x) := (rfl)
theorem retM_none (ins : List LR) (outs : List (List PV)) (x : Value) : retM T s [] ins outs x = (rowsM s.rw 0 ins outs ∧ x = .tuple #[]) := (rfl)
theorem rowsM_1 (rw : Nat → Row) (e sz : Nat) (a c : List PV) : rowsM rw 0 [⟨e, sz, a⟩] [c] = (rw 1000000 = ⟨1, .sli e sz false c⟩) := by
  show (rw 1000000 = ⟨1, .sli e sz false c⟩ ∧ True) = _
  rw [and_true]
theorem rowsM_2 (rw : Nat → Row) (e sz e' sz' : Nat) (a c a' c' : List PV) : rowsM rw 0 [⟨e, sz, a⟩, ⟨e', sz', a'⟩] [c, c'] = (rw 1000000 = ⟨1, .sli e sz false c⟩ ∧ rw 1000001 = ⟨1, .sli e' sz' false c'⟩) := by
  show (rw 1000000 = ⟨1, .sli e sz false c⟩ ∧ rw 1000001 = ⟨1, .sli e' sz' false c'⟩ ∧ True) = _
  rw [and_true]
theorem wrote_1 (j v e sz : Nat) (a c : List PV) : s.wrote [(j, v)] [⟨e, sz, a⟩] [c] = s.row j ⟨v, .sli e sz false c⟩ := by
  unfold St.wrote St.row wroteF
  congr 1
  funext k
  by_cases h : k = j
  · subst h; simp
  · have : (j == k) = false := by simp; exact fun e => h e.symm
    simp [h, this]
theorem wrote_2 [Held] (j v e sz j' v' e' sz' : Nat) (a c a' c' : List PV) (hj : j ≠ j') : s.wrote [(j, v), (j', v')] [⟨e, sz, a⟩, ⟨e', sz', a'⟩] [c, c'] = (s.row j ⟨v, .sli e sz false c⟩).row j' ⟨v', .sli e' sz' false c'⟩ := by
  have hn : ([(j, v), (j', v')].map (·.1)).Nodup := by simpa using hj
  unfold St.wrote St.row
  congr 1
  funext k
  show wroteF s.rw [(j, v), (j', v')] [⟨e, sz, a⟩, ⟨e', sz', a'⟩] [c, c'] k = if k = j' then ⟨v', .sli e' sz' false c'⟩ else if k = j then ⟨v, .sli e sz false c⟩ else s.rw k
  by_cases h : k = j'
  · subst h
    rw [if_pos rfl]
    exact wroteF_at hn (i := 1) (j := (k, v')) (r := ⟨e', sz', a'⟩) (c := c') rfl rfl rfl
  · rw [if_neg h]
    by_cases h' : k = j
    · subst h'
      rw [if_pos rfl]
      exact wroteF_at hn (i := 0) (j := (k, v)) (r := ⟨e, sz, a⟩) (c := c) rfl rfl rfl
    · rw [if_neg h']
      exact wroteF_not (by simp [h, h'])
theorem AG.go [Held] {f : FuncId} {fn : Func} {c : Code} {rs : List ResultVar} {args : List PV} {R0 : Nat → Row} {post : (Nat → Row) → PV → Prop} (hT : T.Ok P) (hm : P.follows .mixedOrders = true) (hf : P.funcs[f]? = some fn) (hname : (fn.name == "runtime.NumGoroutine") = false)
    (hb : fn.body = some c) (hr : fn.results.toList = rs) (hfit : (fits fn.ntmps c && decide (args.length ≤ fn.ntmps) && decide (fn.results.toList.length ≤ 4)) = true)
    (h : lens args → (∀ k, rowLen (R0 k).kind) → ∀ s : St, (∀ i, s.sl i = args.getD i .junk) → (∀ k, s.rw k = R0 k) → cwp P T c (endG T rs post) s) : AG P f args R0 post := by
  subst hr
  refine ⟨⟨fn, hf, hname, by rw [hb]; rfl⟩, fun w M E vals hw hR hv => ?_⟩
  exact (AG.of hT hm hf hname hb hfit (fun hl => h (lens_of hv) hl _ (fun _ => rfl) (fun _ => rfl))).2 w M E vals hw hR hv
theorem endG_ret (rs : List ResultVar) (post : (Nat → Row) → PV → Prop) : endG T rs post .ret s = retG T s rs post := (rfl)
theorem endG_norm (rs : List ResultVar) (post : (Nat → Row) → PV → Prop) : endG T rs post .norm s = retG T s rs post := (rfl)
theorem retG_one (r : Nat) (post : (Nat → Row) → PV → Prop) : retG T s [.tmp r] post = post s.rw (s.sl r) := (rfl)
theorem retG_none (post : (Nat → Row) → PV → Prop) : retG T s [] post = post s.rw (.tup []) := (rfl)
theorem retG_cell (a : Nat) (t : TypeId) (post : (Nat → Row) → PV → Prop) : retG T s [.cell a t] post = ptrK s.rw (s.sl a) (kk fun m c off => ldK T t m c off (kk fun p => post s.rw p)) := (rfl)
theorem retG_two (r r2 : Nat) (post : (Nat → Row) → PV → Prop) : retG T s [.tmp r, .tmp r2] post = post s.rw (.tup [s.sl r, s.sl r2]) := (rfl)
theorem wrap_id {n : Int} (h : -9223372036854775808 ≤ n) (h2 : n ≤ 9223372036854775807) : IntKind.i64.wrap n = n := by
  simp [IntKind.wrap, IntKind.bits, IntKind.signed]
  omega
section
variable {Kp : PV → Prop}
theorem ld_cellsT [Held] (k : Nat) (p : List Nat) {t : TypeId} (o : Nat) (h0 : (T t).k.agg = false) (h1 : 0 < (T t).size) : ldK T t .asis (cellsT k p) o Kp = (o < p.length ∧ Kp (.own (sid k (p.getD o 0)) 1)) := by
  have := ld_list (T := T) (Kp := Kp) (fun j => PV.own (sid k j) 1) 0 p (t := t) (m := .asis) o (fun j => .own (sid k j) 1) (fun _ => rfl) h0 h1
  exact this
theorem splT (k : Nat) (p : List Nat) (i j : Nat) : spl (cellsT k p) i [.own (sid k j) 1] = cellsT k (p.set i j) := by
  show (cellsT k p).set i (.own (sid k j) 1) = _
  unfold cellsT; rw [List.map_set]
theorem snocT (k : Nat) (p : List Nat) (j : Nat) : cellsT k p ++ [.own (sid k j) 1] = cellsT k (p ++ [j]) := by simp [cellsT]
theorem tabbed_sl (k v e e2 : Nat) (p : List Nat) (rows : List (List PV)) : (s.tabbed k v e e2 p rows).sl = s.sl := (rfl)
theorem tabbed_top [Held] (k v e e2 : Nat) (p : List Nat) (rows : List (List PV)) : (s.tabbed k v e e2 p rows).rw k = ⟨v, .tab e (cellsT k p)⟩ := tabF_top
theorem tabbed_rw [Held] (k v e e2 : Nat) (p : List Nat) (rows : List (List PV)) (j : Nat) (h : (j % 1000 == k % 1000) = false) : (s.tabbed k v e e2 p rows).rw j = s.rw j := by
  have h := beq_eq_false_iff_ne.1 h
  refine tabF_other (fun e => h (by rw [e])) fun x _ e => h ?_
  rw [e, sid_eq]; omega
theorem next_self (k v : Nat) (dst : Option Nat) : TR.self.next s k v dst K = K (s.put dst (.own k v)) := (rfl)
theorem next_selfx (k v : Nat) (dst : Option Nat) (x : Value) : (TR.selfx x).next s k v dst K = K (s.put dst (.tup [.own k v, .v x])) := (rfl)
theorem next_rv (k v d : Nat) (r : RV) : (TR.rv r).next s k v (some d) K = (d % 1000 ≠ k % 1000 ∧ K (adoptSt s d r)) := (rfl)
theorem next_none (k v : Nat) (r : RV) : (TR.rv r).next s k v none K = K s := (rfl)
theorem initT_sl (args : List PV) (e e2 : Nat) (rows : List (List PV)) (i : Nat) : (St.initT args e e2 rows).sl i = args.getD i .junk := (rfl)
theorem initT_rw (args : List PV) (e e2 : Nat) (rows : List (List PV)) (i : Nat) : (St.initT args e e2 rows).rw i = inT e e2 rows i := (rfl)
theorem inT_low [Held] (e e2 : Nat) (rows : List (List PV)) (k : Nat) (h : k < 1000000) : inT e e2 rows k = ⟨0, .dead⟩ := inT_lo h
theorem inT_1000000 [Held] (e e2 : Nat) (rows : List (List PV)) : inT e e2 rows 1000000 = ⟨1, .tab e (cellsT 1000000 (List.range rows.length))⟩ := inT_top
theorem endT_ret (rs : List ResultVar) (e e2 n : Nat) (rows : List (List PV)) (res : TR) : endT T rs e e2 n rows res .ret s = retT T s rs e e2 n rows res := (rfl)
theorem endT_norm (rs : List ResultVar) (e e2 n : Nat) (rows : List (List PV)) (res : TR) : endT T rs e e2 n rows res .norm s = retT T s rs e e2 n rows res := (rfl)
def tabEnd (rw : Nat → Row) (e e2 n : Nat) (rows : List (List PV)) : Prop := ∃ q : List Nat, TabIs rw lent 1 e e2 q rows ∧ q.Perm (List.range n)
theorem retT_self (r e e2 n : Nat) (rows : List (List PV)) : retT T s [.tmp r] e e2 n rows .self = (tabEnd s.rw e e2 n rows ∧ s.sl r = .own 1000000 1) := (rfl)
theorem retT_selfx (r r2 e e2 n : Nat) (rows : List (List PV)) (x : Value) : retT T s [.tmp r, .tmp r2] e e2 n rows (.selfx x) = (tabEnd s.rw e e2 n rows ∧ s.sl r = .own 1000000 1 ∧ s.sl r2 = .v x) := (rfl)
theorem retT_rv (rs : List ResultVar) (e e2 n : Nat) (rows : List (List PV)) (r : RV) : retT T s rs e e2 n rows (.rv r) = (tabEnd s.rw e e2 n rows ∧ retK T s rs r) := (rfl)
theorem adoptT_sl [Held] (d e e2 : Nat) (rows : List (List PV)) : (adoptSt s d (.tb e e2 rows)).sl d = .own d ((s.rw d).ver + 1) := by
  unfold adoptSt
  rw [put_sl_same]
  rfl
theorem adoptT_slne [Held] (d e e2 t : Nat) (rows : List (List PV)) (h : t ≠ d) : (adoptSt s d (.tb e e2 rows)).sl t = s.sl t := by
  unfold adoptSt
  rw [put_sl_ne _ _ _ _ h]
theorem adoptT_rw [Held] (d e e2 j : Nat) (rows : List (List PV)) (h : (j % 1000 == d % 1000) = false) : (adoptSt s d (.tb e e2 rows)).rw j = s.rw j := by
  have h := beq_eq_false_iff_ne.1 h
  unfold adoptSt
  rw [put_rw]
  show addRows s.rw d (leaves (.tb e e2 rows)) 0 j = s.rw j
  rw [addRows_eq]
  refine updL_other _ _ _ _ _ fun i _ e => h ?_
  rw [e]; unfold leafId; omega
theorem adoptT_at [Held] (d e e2 : Nat) (rows : List (List PV)) {i : Nat} (h : i < rows.length) : (adoptSt s d (.tb e e2 rows)).rw (sid d i) = ⟨(s.rw (sid d i)).ver + 1, .sli e2 1 false (rows.getD i [])⟩ := by
  have hrw : (adoptSt s d (.tb e e2 rows)).rw = updL s.rw d (rowsOf s.rw d (leaves (.tb e e2 rows)) 0) 0 := by
    unfold adoptSt; rw [put_rw]; exact addRows_eq _ _ _ _
  have hl : (leaves (.tb e e2 rows)).length = rows.length + 1 := by rw [leaves]; simp
  have h1 : i + 1 < (rowsOf s.rw d (leaves (.tb e e2 rows)) 0).length := by rw [rowsOf_length, hl]; omega
  have h2 : i + 1 < (leaves (.tb e e2 rows)).length := by rw [hl]; omega
  have := updL_at s.rw d (rowsOf s.rw d (leaves (.tb e e2 rows)) 0) 0 (i + 1) h1
  rw [Nat.zero_add] at this
  rw [hrw]
  show updL s.rw d _ 0 (leafId d (i + 1)) = _
  rw [this, rowsOf_get _ _ _ _ _ h2, Nat.zero_add]
  have h3 : (leaves (.tb e e2 rows))[i + 1] = (e2, some 1, rows[i]) := by simp [leaves]
  rw [h3]
  simp [leafKind, sid, List.getD, h]
theorem adoptT_top [Held] (d e e2 : Nat) (rows : List (List PV)) : (adoptSt s d (.tb e e2 rows)).rw d = ⟨(s.rw d).ver + 1, .tab e (tabCells s.rw d 0 rows.length)⟩ := by
  have hrw : (adoptSt s d (.tb e e2 rows)).rw = updL s.rw d (rowsOf s.rw d (leaves (.tb e e2 rows)) 0) 0 := by
    unfold adoptSt; rw [put_rw]; exact addRows_eq _ _ _ _
  have hl : (leaves (.tb e e2 rows)).length = rows.length + 1 := by rw [leaves]; simp
  have h1 : 0 < (rowsOf s.rw d (leaves (.tb e e2 rows)) 0).length := by rw [rowsOf_length, hl]; omega
  have h2 : 0 < (leaves (.tb e e2 rows)).length := by rw [hl]; omega
  have := updL_at s.rw d (rowsOf s.rw d (leaves (.tb e e2 rows)) 0) 0 0 h1
  rw [Nat.zero_add] at this
  rw [hrw]
  have hd : leafId d 0 = d := by unfold leafId; omega
  have e1 : updL s.rw d (rowsOf s.rw d (leaves (.tb e e2 rows)) 0) 0 d = updL s.rw d (rowsOf s.rw d (leaves (.tb e e2 rows)) 0) 0 (leafId d 0) := by rw [hd]
  rw [e1, this, rowsOf_get _ _ _ _ _ h2]
  have h3 : (leaves (.tb e e2 rows))[0] = (e, none, List.replicate rows.length .junk) := by simp [leaves]
  rw [h3]
  simp [leafKind, hd]
theorem leaf_sid' [Held] (d j : Nat) : leafId d (0 + 1 + j) = sid d j := by rw [sid_eq]; unfold leafId; omega
theorem adoptT_is [Held] (d e e2 : Nat) (rows : List (List PV)) (h : ∀ i, i < rows.length → (s.rw (sid d i)).ver = 0) : TabIs (adoptSt s d (.tb e e2 rows)).rw d ((s.rw d).ver + 1) e e2 (List.range rows.length) rows := by
  refine ⟨?_, by simp, fun i hi => ?_⟩
  · rw [adoptT_top]
    congr 2
    unfold tabCells cellsT
    refine List.map_congr_left fun j hj => ?_
    rw [leaf_sid', h j (List.mem_range.1 hj)]
  · have hi' : i < rows.length := by simpa using hi
    have : (List.range rows.length).getD i 0 = i := by simp [List.getD, hi']
    rw [this, adoptT_at d e e2 rows hi', h i hi']
theorem lend_adoptT [Held] (d e e2 : Nat) (rows : List (List PV)) : (tabCells s.rw d 0 rows.length).map (lendC (adoptSt s d (.tb e e2 rows)).rw) = rows.map fun r => .sl false 1 r := by
  refine List.ext_getElem (by simp [tabCells]) fun i a b => ?_
  have hi : i < rows.length := by simpa using b
  have h2 : rows.getD i [] = rows[i] := by simp [List.getD, hi]
  rw [List.getElem_map, List.getElem_map]
  simp only [tabCells, List.getElem_map, List.getElem_range]
  rw [leaf_sid']
  simp only [lendC, adoptT_at d e e2 rows hi, if_true, h2]
end
theorem killed_sl (k : Nat) (p : List Nat) : (s.killed k p).sl = s.sl := (rfl)
theorem killed_rw [Held] (k : Nat) (p : List Nat) (j : Nat) (h : (j % 1000 == k % 1000) = false) : (s.killed k p).rw j = s.rw j := by
  have h := beq_eq_false_iff_ne.1 h
  refine killF_out fun hj => h ?_
  rcases hj with rfl | ⟨x, _, rfl⟩
  · rfl
  · exact sid_mod _ _
theorem adoptT_lend [Held] {rw0 : Nat → Row} (d e e2 : Nat) (rows : List (List PV)) (h : ∀ i, s.rw (sid d i) = rw0 (sid d i)) : (tabCells rw0 d 0 rows.length).map (lendC (adoptSt s d (.tb e e2 rows)).rw) = rows.map fun r => .sl false 1 r := by
  have : tabCells rw0 d 0 rows.length = tabCells s.rw d 0 rows.length := by
    unfold tabCells
    refine List.map_congr_left fun j _ => ?_
    rw [leaf_sid', h j]
  rw [this, lend_adoptT]
theorem mapT_I (M : List (List Int)) : (M.map iL).map (fun r => PV.sl false 1 r) = iLL M := by
  unfold iLL
  rw [List.map_map]; rfl
def again [Held] {α : Type} (I : α → St → Prop) (μ : α → Nat) (m : Nat) (s2 : St) : Prop := ∃ x' s3, Wk s2 s3 ∧ I x' s3 ∧ μ x' < m
theorem again_of [Held] {α : Type} {I : α → St → Prop} {μ : α → Nat} {m : Nat} (x' : α) (h : I x' s) (hm : μ x' < m) : again I μ m s := ⟨x', s, Wk.refl s, h, hm⟩
theorem loop_of [Held] {α : Type} (I : α → St → Prop) (μ : α → Nat) (x0 : α) {b : (AX → St → Prop) → St → Prop} {u : Dm b} {v : Dm Q} (h0 : I x0 s) (h : ∀ x s1, I x s1 → b (AX.seq (again I μ (μ x)) Q) s1) : loopK (kk b u) (kk Q v) s :=
  ⟨α, I, μ, ⟨x0, s, Wk.refl s, h0⟩, h⟩
end
end Go.Abs
