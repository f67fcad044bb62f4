/- DERIVED by an AI agent. What an operation that only computes or reads yields, abstractly; and that the model yields it. No program in sight. -/
import Derived.Test.YtfjjopfeipggiaaA1
namespace Go.Abs

inductive TK where
  | int (k : IntKind)
  | bool
  | str
  | sli (e : TypeId)
  | struct (fs : List (Nat × TypeId))
  | arr (n : Nat) (e : TypeId)
  | other
def TK.agg : TK → Bool | .struct _ => true | .arr _ _ => true | _ => false

structure TD where
  k : TK
  size : Nat
  bytes : Nat
  zero : List Value

def TK.fits (P : Program) (t : TypeId) : TK → Prop
  | .int k => P.underlying t = some (.int k)
  | .bool => P.underlying t = some .bool
  | .str => P.underlying t = some .string
  | .sli e => P.underlying t = some (.slice e)
  | .struct fs => ∃ flds : Array Field, P.underlying t = some (.struct flds) ∧ flds.toList.map (fun f => (f.offset, f.type)) = fs
  | .arr n e => P.underlying t = some (.array n e)
  | .other => ∃ d, P.underlying t = some d ∧ (match d with | .struct _ | .array _ _ => False | _ => True)

/-- A type's description is the program's own. -/
structure TD.Fits (P : Program) (t : TypeId) (d : TD) : Prop where
  k : d.k.fits P t
  info : ∃ i z, P.info? t = some i ∧ i.size = d.size ∧ i.bytes = d.bytes ∧ i.zero = some z ∧ z.cells.toList = d.zero
  zlen : d.zero.length = d.size
  one : d.k.agg = false → d.size = 1 ∧ ∀ z, d.zero = [z] → z.oneCell' = true

abbrev Tab := TypeId → TD

def Tab.Ok (T : Tab) (P : Program) : Prop := ∀ t, 0 < (T t).size → (T t).Fits P t

section
variable {P : Program} {T : Tab}

theorem run_isAgg {t : TypeId} {k : TK} (h : k.fits P t) (w : World) : (isAgg t).run P w = .ok k.agg w := by
  cases k with
  | struct fs => obtain ⟨fl, h, _⟩ := h; simp [isAgg, run_underlying h, TK.agg]
  | other =>
    obtain ⟨d, h, hd⟩ := h
    cases d <;> simp [isAgg, run_underlying h, TK.agg] at hd ⊢
  | _ => simp only [TK.fits] at h; simp [isAgg, run_underlying h, TK.agg]

theorem run_sizeOf_of {t : TypeId} {d : TD} (h : d.Fits P t) (w : World) : (sizeOf t).run P w = .ok d.size w := by
  obtain ⟨i, z, h1, h2, _⟩ := h.info
  simp [sizeOf, typeInfo, h1, h2]
end

/-- The value that a comparison or a sum of plain values has. -/
def iand (k : IntKind) (a b : Int) : Int := k.wrap (BitVec.ofInt k.bits a &&& BitVec.ofInt k.bits b).toNat
def ior (k : IntKind) (a b : Int) : Int := k.wrap (BitVec.ofInt k.bits a ||| BitVec.ofInt k.bits b).toNat
def ixor (k : IntKind) (a b : Int) : Int := k.wrap (BitVec.ofInt k.bits a ^^^ BitVec.ofInt k.bits b).toNat
def iandnot (k : IntKind) (a b : Int) : Int := k.wrap (BitVec.ofInt k.bits a &&& ~~~ BitVec.ofInt k.bits b).toNat
def ishl (k : IntKind) (a b : Int) : Int := k.wrap (a * 2 ^ (min b.toNat k.bits))
def ishr (k : IntKind) (a b : Int) : Int := a.fdiv (2 ^ (min b.toNat k.bits))

def binInt : BinOp → IntKind → Int → Int → Value
  | .add, k, a, b => .int k (k.wrap (a + b))
  | .sub, k, a, b => .int k (k.wrap (a - b))
  | .mul, k, a, b => .int k (k.wrap (a * b))
  | .quo, k, a, b => .int k (k.wrap (a.tdiv b))
  | .rem, k, a, b => .int k (a.tmod b)
  | .and, k, a, b => .int k (iand k a b)
  | .or, k, a, b => .int k (ior k a b)
  | .xor, k, a, b => .int k (ixor k a b)
  | .andNot, k, a, b => .int k (iandnot k a b)
  | .shl, k, a, b => .int k (ishl k a b)
  | .shr, k, a, b => .int k (ishr k a b)
  | .eql, _, a, b => .bool (a == b)
  | .neq, _, a, b => .bool (a != b)
  | .lss, _, a, b => .bool (decide (a < b))
  | .leq, _, a, b => .bool (decide (a ≤ b))
  | .gtr, _, a, b => .bool (decide (a > b))
  | .geq, _, a, b => .bool (decide (a ≥ b))

def binIntC : BinOp → IntKind → IntKind → Int → Prop
  | .quo, k, k', b => k = k' ∧ b ≠ 0
  | .rem, k, k', b => k = k' ∧ b ≠ 0
  | .shl, _, _, b => 0 ≤ b
  | .shr, _, _, b => 0 ≤ b
  | _, k, k', _ => k = k'

def binStr : BinOp → ByteArray → ByteArray → Option Value
  | .add, a, b => some (.string (a ++ b))
  | .eql, a, b => some (.bool (a.toList == b.toList))
  | .neq, a, b => some (.bool (!(a.toList == b.toList)))
  | .lss, a, b => some (.bool (Op.bytesLess a.toList b.toList))
  | _, _, _ => none

/-- A pair of plain values under an operator: what is asked, what comes. -/
def binK (T : Tab) (op : BinOp) (t : TypeId) (x y : PV) (K : PV → Prop) : Prop :=
  match x, y with
  | .v (.int k a), .v (.int k' b) => binIntC op k k' b ∧ K (.v (binInt op k a b))
  | .v (.string a), .v (.string b) => (op = .add → a.size + b.size ≤ 9223372036854775807) ∧ match binStr op a b with | some r => K (.v r) | none => False
  | .v (.bool a), .v (.bool b) => (T t).k = .bool ∧ 0 < (T t).size ∧ match op with | .eql => K (.v (.bool (a == b))) | .neq => K (.v (.bool (!(a == b)))) | _ => False
  | _, _ => False

section
variable {P : Program} {T : Tab} (w : World)

theorem run_binInt (op : BinOp) (t : TypeId) (k k' : IntKind) (a b : Int) (h : binIntC op k k' b) : (binOp op t (.int k a) (.int k' b)).run P w = .ok (binInt op k a b) w := by
  cases op <;> simp only [binIntC] at h <;> first
    | (obtain ⟨rfl, hb⟩ := h; simp [binOp, Op.intDiv, binInt, hb]; done)
    | (subst h; simp [binOp, Op.intArith, Op.intBits, Op.intCmp, binInt, iand, ior, ixor, iandnot]; done)
    | (have hn : ¬ b < 0 := by omega
       simp [binOp, Op.shift, binInt, ishl, ishr, hn]; done)

theorem run_binStr (op : BinOp) (t : TypeId) (a b : ByteArray) (r : Value) (hs : op = .add → a.size + b.size ≤ 9223372036854775807) (h : binStr op a b = some r) :
    (binOp op t (.string a) (.string b)).run P w = .ok r w := by
  cases op <;> simp [binStr] at h <;> subst h
  case add =>
    have h1 := hs rfl
    simp only [binOp]
    exact run_string_add_sum w a b h1
  all_goals simp [binOp, Op.stringOp]

theorem run_eqGuard_int (op : BinOp) (t : TypeId) (x y : Operand) (k k' : IntKind) (a b : Int) : (eqGuard op t x y (.int k a) (.int k' b)).run P w = .ok () w := by
  unfold eqGuard; cases op <;> simp
theorem run_eqGuard_string (op : BinOp) (t : TypeId) (x y : Operand) (a b : ByteArray) : (eqGuard op t x y (.string a) (.string b)).run P w = .ok () w := by
  unfold eqGuard; cases op <;> simp
theorem run_eqGuard_bool (op : BinOp) (t : TypeId) (x y : Operand) (a b : Bool) : (eqGuard op t x y (.bool a) (.bool b)).run P w = .ok () w := by
  unfold eqGuard; cases op <;> simp
end

theorem Rep.v_eq {w : World} {E : Env} {lo : Nat} {x y : Value} (h : Rep w E lo (.v x) y) : y = x := by cases h; rfl

/-- What an operation yields wherever the state fits. -/
def Yields (P : Program) (G : Ghost) (s : St) (o : Oper) (p : PV) : Prop :=
  ∀ (E : Env) (a : Act) (w : World), E.R = s.rw → WOk G E w → (∀ x ∈ o.op.operands, Rep w E 0 (s.ev x) (a.eval x)) →
    ∀ (K : Act → World → Prop) (Q : Exit → Act → World → Prop), (∀ v w', Ext w w' → Rep w' E 0 p v → K (a.put o.dst v) w') → o.wp P a w K Q

theorem wp_of_value {P : Program} {o : Oper} {a : Act} {w w' : World} {K : Act → World → Prop} {Q : Exit → Act → World → Prop} {v : Value}
    (h : (execOp a.eval o).run P w = .ok (.value v) w') (hk : K (a.put o.dst v) w') : o.wp P a w K Q := by
  unfold Oper.wp; rw [h]; exact hk

/-- An operation that only computes. -/
theorem yields_of_run {P : Program} {G : Ghost} {s : St} {o : Oper} {p : PV}
    (h : ∀ (E : Env) (a : Act) (w : World), E.R = s.rw → WOk G E w → (∀ x ∈ o.op.operands, Rep w E 0 (s.ev x) (a.eval x)) → ∃ v w', (execOp a.eval o).run P w = .ok (.value v) w' ∧ Ext w w' ∧ Rep w' E 0 p v) :
    Yields P G s o p := by
  intro E a w h1 h2 h3 K Q hk
  obtain ⟨v, w', hr, hx, hv⟩ := h E a w h1 h2 h3
  exact wp_of_value hr (hk v w' hx hv)

end Go.Abs
