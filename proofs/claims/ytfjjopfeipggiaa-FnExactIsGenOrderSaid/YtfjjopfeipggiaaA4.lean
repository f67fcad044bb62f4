/- DERIVED by an AI agent. The operations that only compute or read: what they ask, what they yield; and that the model yields it. No program in sight. -/
import Derived.Test.YtfjjopfeipggiaaA3
namespace Go.Abs

def bndK (ev : Operand → PV) (o : Option Operand) (dflt : Int) (K : Int → Prop) : Prop :=
  match o with
  | none => K dflt
  | some x => match ev x with | .v (.int _ n) => K n | _ => False

/-- A slice's cells, to be cut: the row is one that is written no more. -/
def slFzK (rw : Nat → Row) (p : PV) (K : Bool → Nat → List PV → Prop) : Prop :=
  match p with
  | .sl fr sz c => K fr sz c
  | .own k ver => k < lent ∧ (rw k).ver = ver ∧ match (rw k).kind with | .sli _ sz true c => K true sz c | _ => False
  | _ => False

def unK (op : UnOp) (p : PV) (K : PV → Prop) : Prop :=
  match op, p with
  | .not, .v (.bool b) => K (.v (.bool !b))
  | .neg, .v (.int k n) => K (.v (.int k (k.wrap (0 - n))))
  | .xor, .v (.int k n) => K (.v (.int k (ixor k (if k.signed then -1 else k.max) n)))
  | _, _ => False

/-- A pointer that is surely none of nil. -/
def sureK (rw : Nat → Row) (p : PV) (K : Prop) : Prop :=
  match p with
  | .ref k ver _ => (rw k).ver = ver ∧ (rw k).kind.nd = true ∧ K
  | .eref _ _ _ => K
  | .clo _ _ => K
  | _ => False

def shiftP (p : PV) (d : Nat) : PV :=
  match p with
  | .ref k ver off => .ref k ver (off + d)
  | .eref fr c off => .eref fr c (off + d)
  | p => p

def fieldK (T : Tab) (t : TypeId) (f : Nat) (K : Nat → TypeId → Prop) : Prop :=
  0 < (T t).size ∧ match (T t).k with | .struct fs => (match fs[f]? with | some (o, ft) => 0 < (T ft).size ∧ K o ft | none => False) | _ => False

def isPtr : PV → Bool | .ref _ _ _ => true | .eref _ _ _ => true | _ => false

def indexAddrK (T : Tab) (rw : Nat → Row) (t : TypeId) (x i : PV) (K : PV → Prop) : Prop :=
  match i with
  | .v (.int _ n) =>
    0 < (T t).size ∧ match (T t).k with
    | .sli e =>
      (match x with
      | .sl fr sz c => 0 < (T e).size ∧ sz = (T e).size ∧ 0 ≤ n ∧ n.toNat * sz < c.length ∧ K (.eref fr c (n.toNat * sz))
      | .own k ver => (rw k).ver = ver ∧ match (rw k).kind with | .sli _ sz _ c => 0 < (T e).size ∧ sz = (T e).size ∧ 0 ≤ n ∧ n.toNat * sz < c.length ∧ K (.ref k ver (n.toNat * sz)) | _ => False
      | _ => False)
    | .arr len e => isPtr x = true ∧ 0 < (T e).size ∧ 0 ≤ n ∧ n < len ∧ sureK rw x (K (shiftP x (n.toNat * (T e).size)))
    | _ => False
  | _ => False

def lenK (T : Tab) (rw : Nat → Row) (t : TypeId) (x : PV) (K : PV → Prop) : Prop :=
  0 < (T t).size ∧ match (T t).k with
  | .str => (match x with | .v (.string s) => K (.v (.int .i64 s.size)) | _ => False)
  | .sli _ => slK rw x fun _ sz c => 0 < sz ∧ K (.v (.int .i64 ((c.length / sz : Nat) : Int)))
  | .arr n _ => K (.v (.int .i64 n))
  | _ => False

def sliceK (T : Tab) (rw : Nat → Row) (ev : Operand → PV) (t : TypeId) (x : PV) (lo hi mx : Option Operand) (K : PV → Prop) : Prop :=
  0 < (T t).size ∧ match (T t).k with
  | .str => mx = none ∧ (match x with
      | .v (.string s) => bndK ev lo 0 fun l => bndK ev hi s.size fun h => 0 ≤ l ∧ l ≤ h ∧ h ≤ s.size ∧ K (.v (.string (s.extract l.toNat h.toNat)))
      | _ => False)
  | .sli e => slFzK rw x fun fr sz c => 0 < (T e).size ∧ sz = (T e).size ∧
      bndK ev lo 0 fun l => bndK ev hi ((c.length / sz : Nat) : Int) fun h => bndK ev mx ((c.length / sz : Nat) : Int) fun m => 0 ≤ l ∧ l ≤ h ∧ h ≤ m ∧ m ≤ ((c.length / sz : Nat) : Int) ∧ (hi = none → mx = none) ∧
        K (.sl fr sz ((c.take (h.toNat * sz)).drop (l.toNat * sz)))
  | _ => False

def minmaxK (isMax : Bool) (x y : PV) (K : PV → Prop) : Prop :=
  match x, y with
  | .v (.int k a), .v (.int _ b) => K (.v (.int k (match isMax with | true => if b > a then b else a | false => if b < a then b else a)))
  | _, _ => False

def convK (T : Tab) (rw : Nat → Row) (src dst : TypeId) (x : PV) (K : PV → Prop) : Prop :=
  0 < (T src).size ∧ 0 < (T dst).size ∧ match (T src).k, (T dst).k with
  | .int _, .int k => (match x with | .v (.int _ n) => K (.v (.int k (k.wrap n))) | _ => False)
  | .str, .str => (match x with | .v (.string s) => K (.v (.string s)) | _ => False)
  | .sli e, .str => 0 < (T e).size ∧ (match (T e).k with
      | .int .u8 => slK rw x fun _ sz c => sz = 1 ∧ ∃ bs : List Int, c = bs.map (fun n => PV.v (.int .u8 n)) ∧ K (.v (.string (bs.foldl (fun r n => r.push (UInt8.ofNat n.toNat)) ByteArray.empty)))
      | _ => False)
  | _, _ => False

/-- An operation that computes or reads: what it asks, what it yields. -/
def valK (T : Tab) (rw : Nat → Row) (ev : Operand → PV) (op : Op) (K : PV → Prop) : Prop :=
  match op with
  | .move x => K (ev x)
  | .assign x => K (ev x)
  | .pick c a b => (match ev c with | .v (.bool t) => (t = true → K (ev a)) ∧ (t = false → K (ev b)) | _ => False)
  | .binOp op t x y _ => binK T op t (ev x) (ev y) K
  | .unOp op _ x => unK op (ev x) K
  | .convert src dst x => convK T rw src dst (ev x) K
  | .load t x => ptrK rw (ev x) fun m c off => ldK T t m c off K
  | .fieldAddr t x f => fieldK T t f fun o _ => isPtr (ev x) = true ∧ sureK rw (ev x) (K (shiftP (ev x) o))
  | .field t x f => fieldK T t f fun o ft => (match ev x with | .ag c => ldK T ft .asis c o K | _ => False)
  | .indexAddr t x i => indexAddrK T rw t (ev x) (ev i) K
  | .index t x i => 0 < (T t).size ∧ (match (T t).k, ev x, ev i with
      | .str, .v (.string s), .v (.int _ n) => 0 ≤ n ∧ n.toNat < s.size ∧ K (.v (.int .u8 ((s.data.toList.getD n.toNat 0).toNat : Int)))
      | .arr len e, .ag c, .v (.int _ n) => 0 ≤ n ∧ n < len ∧ ldK T e .asis c (n.toNat * (T e).size) K
      | _, _, _ => False)
  | .slice t x lo hi mx => sliceK T rw ev t (ev x) lo hi mx K
  | .extract x i => (match ev x with | .tup ps => i < ps.length ∧ K (ps.getD i .junk) | _ => False)
  | .makeFunc fn first caps => (match fn with | .func f => first = #[] ∧ K (.clo f (caps.toList.map ev)) | _ => False)
  | .nilCheck x => sureK rw (ev x) (K (ev x))
  | .call c => (match c with
      | ⟨.builtin .len, ⟨[x]⟩, ⟨[t]⟩⟩ => lenK T rw t (ev x) K
      | ⟨.builtin .max, ⟨[x, y]⟩, _⟩ => minmaxK true (ev x) (ev y) K
      | ⟨.builtin .min, ⟨[x, y]⟩, _⟩ => minmaxK false (ev x) (ev y) K
      | _ => False)
  | _ => False

end Go.Abs
