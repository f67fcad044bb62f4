/- DERIVED by an AI agent. Rules by which simp carries a text out, head first. No program in sight. -/
import Derived.Test.YtjikeknpidbceaaGreatA10
namespace Go.Abs
set_option linter.unusedSimpArgs false
set_option linter.unusedVariables false
def iL (xs:List Int):List PV:=xs.map fun n=>.v (.int .i64 n)
def kL (k:IntKind) (xs:List Int):List PV:=xs.map fun n=>.v (.int k n)
def sL (xs:List ByteArray):List PV:=xs.map fun n=>.v (.string n)
def bL (xs:List Bool):List PV:=xs.map fun n=>.v (.bool n)
def iLL (xss:List (List Int)):List PV:=xss.map fun r=>.sl false 1 (iL r)
abbrev zaI (xs:List Int):PV:=.sl false 1 (iL xs)
abbrev zH6 (xs:List ByteArray):PV:=.sl false 1 (sL xs)
abbrev zFF (xss:List (List Int)):PV:=.sl false 1 (iLL xss)
abbrev int (n:Int):PV:=.v (.int .i64 n)
abbrev u64 (n:Int):PV:=.v (.int .u64 n)
abbrev bool (b:Bool):PV:=.v (.bool b)
abbrev str (s:ByteArray):PV:=.v (.string s)
theorem znw (xs:List Int):(iL xs).length = xs.length:=by simp [iL]
theorem znx (k:IntKind) (xs:List Int):(kL k xs).length = xs.length:=by simp [kL]
theorem zny (xs:List ByteArray):(sL xs).length = xs.length:=by simp [sL]
theorem znz (xs:List Bool):(bL xs).length = xs.length:=by simp [bL]
theorem zgR (xs:List (List Int)):(iLL xs).length = xs.length:=by simp [iLL]
theorem znA (xs ys:List Int):iL xs ++ iL ys = iL (xs ++ ys):=by simp [iL]
theorem zv3 (xs:List Int) (n:Int):iL xs ++ [.v (.int .i64 n)] = iL (xs ++ [n]):=by simp [iL]
theorem znB (k:IntKind) (xs ys:List Int):kL k xs ++ kL k ys = kL k (xs ++ ys):=by simp [kL]
theorem zv4 (k:IntKind) (xs:List Int) (n:Int):kL k xs ++ [.v (.int k n)] = kL k (xs ++ [n]):=by simp [kL]
theorem zv5 (xs:List ByteArray) (n:ByteArray):sL xs ++ [.v (.string n)] = sL (xs ++ [n]):=by simp [sL]
theorem znC (xs ys:List ByteArray):sL xs ++ sL ys = sL (xs ++ ys):=by simp [sL]
theorem zmk (xs:List (List Int)) (r:List Int):iLL xs ++ [.sl false 1 (iL r)] = iLL (xs ++ [r]):=by simp [iLL]
theorem zkP (xs ys:List (List Int)):iLL xs ++ iLL ys = iLL (xs ++ ys):=by simp [iLL]
theorem zv6 (xs:List Int) (n:Nat):(iL xs).take n = iL (xs.take n):=by simp [iL]
theorem zv7 (xs:List Int) (n:Nat):(iL xs).drop n = iL (xs.drop n):=by simp [iL]
theorem zv8 (xs:List ByteArray) (n:Nat):(sL xs).take n = sL (xs.take n):=by simp [sL]
theorem zv9 (xs:List ByteArray) (n:Nat):(sL xs).drop n = sL (xs.drop n):=by simp [sL]
theorem zrO (xs:List (List Int)) (n:Nat):(iLL xs).take n = iLL (xs.take n):=by simp [iLL]
theorem zrP (xs:List (List Int)) (n:Nat):(iLL xs).drop n = iLL (xs.drop n):=by simp [iLL]
theorem zBm (xs:List Int) (i:Nat) (n:Int):spl (iL xs) i [.v (.int .i64 n)] = iL (xs.set i n):=by simp [spl,iL]
theorem zBn (a p:PV) (c:List PV):spl (a :: c) 0 [p] = p :: c:=by simp [spl]
theorem zBo (a b p:PV) (c:List PV):spl (a :: b :: c) 1 [p] = a :: p :: c:=by simp [spl]
theorem zBp (a b d p:PV) (c:List PV):spl (a :: b :: d :: c) 2 [p] = a :: b :: p :: c:=by simp [spl]
theorem zBq (a b d e p:PV) (c:List PV):spl (a :: b :: d :: e :: c) 3 [p] = a :: b :: d :: p :: c:=by simp [spl]
theorem zBr (a b p q:PV):spl [a,b] 0 [p,q] = [p,q]:=by simp [spl]
theorem zBs (a b c d p q:PV):spl [a,b,c,d] 0 [p,q] = [p,q,c,d]:=by simp [spl]
theorem zwa (a b c d p q:PV):spl [a,b,c,d] 2 [p,q] = [a,b,p,q]:=by simp [spl]
theorem zBt (a b c d p q r s:PV):spl [a,b,c,d] 0 [p,q,r,s] = [p,q,r,s]:=by simp [spl]
theorem zBu (xs:List Bool) (i:Nat) (n:Bool):spl (bL xs) i [.v (.bool n)] = bL (xs.set i n):=by simp [spl,bL]
theorem zwb (xs:List (List Int)) (i:Nat) (r:List Int):spl (iLL xs) i [.sl false 1 (iL r)] = iLL (xs.set i r):=by simp [spl,iLL]
theorem zeu (n:Nat) (x:Int):List.replicate n (PV.v (.int .i64 x)) = iL (List.replicate n x):=by simp [iL]
theorem zev (n:Nat) (x:Bool):List.replicate n (PV.v (.bool x)) = bL (List.replicate n x):=by simp [bL]
theorem zwc (xs:List Int):(∀ p ∈ iL xs,isV p = true) = True:=by simp [iL,isV,Value.oneCell']
theorem zEr (k:IntKind) (xs:List Int):(∀ p ∈ kL k xs,isV p = true) = True:=by simp [kL,isV,Value.oneCell']
theorem zEs (xs:List ByteArray):(∀ p ∈ sL xs,isV p = true) = True:=by simp [sL,isV,Value.oneCell']
theorem zz8 (xs:List (List Int)):(∀ p ∈ iLL xs,zqm p = true) = True:=by simp [iLL,zqm]
theorem zwd (k:IntKind) (n:Int):(Value.int k n).oneCell' = true:=(rfl)
theorem zrQ (b:Bool):(Value.bool b).oneCell' = true:=(rfl)
theorem zkQ (b:ByteArray):(Value.string b).oneCell' = true:=(rfl)
theorem znD (a:Option Addr) (l c:Nat):(Value.slice a l c).oneCell' = true:=(rfl)
theorem zh9 (s:St) (p:PV):s.put none p = s:=(rfl)
theorem zew (s:St) (d:Option Nat) (p:PV):(s.put d p).rw = s.rw:=by cases d <;> rfl
theorem zrR (s:St) (k:Nat) (r:Row):(s.row k r).sl = s.sl:=(rfl)
theorem zaE (s:St) (k:Nat) (r:Row):(s.row k r).rw k = r:=by simp [St.row]
theorem zao (s:St) (k j:Nat) (r:Row) (h:j ≠ k):(s.row k r).rw j = s.rw j:=by simp [St.row,h]
theorem zf0 (s:St) (ks:List Nat):(s.freeze ks).sl = s.sl:=(rfl)
theorem zf1 (s:St) (ks:List Nat) (k:Nat):(s.freeze ks).rw k = if k ∈ ks then frz (s.rw k) else s.rw k:=(rfl)
theorem zml (ver:Nat) (e sz:Nat) (fz:Bool) (c:List PV):frz ⟨ver,.sli e sz fz c⟩ = ⟨ver,.sli e sz true c⟩:=(rfl)
theorem zrS (s:St) (t:Nat):s.ev (.tmp t) = s.sl t:=(rfl)
theorem zwe (s:St) (f:FuncId):s.ev (.func f) = .clo f []:=(rfl)
theorem zrT (s:St) (k:IntKind) (n:Int):s.ev (.const (.int k n)) = .v (.int k n):=(rfl)
theorem zmm (s:St) (b:Bool):s.ev (.const (.bool b)) = .v (.bool b):=(rfl)
theorem zf2 (s:St) (b:ByteArray):s.ev (.const (.string b)) = .v (.string b):=(rfl)
theorem zrU (s:St) (a:Option Addr) (l c:Nat):s.ev (.const (.slice a l c)) = .v (.slice a l c):=(rfl)
theorem zBv (s:St) (cs:List Value):s.ev (.const (.agg ⟨cs⟩)) = .ag (cs.map PV.v):=(rfl)
theorem zmn (args:List PV) (i:Nat):(St.init args).sl i = args.getD i .junk:=(rfl)
theorem zmo (args:List PV) (i:Nat):(St.init args).rw i = ⟨0,.dead⟩:=(rfl)
theorem zf3 {α:Type} (a:α) (l:List α) (d:α):(a :: l).getD 0 d = a:=(rfl)
theorem zf4 {α:Type} (a:α) (l:List α) (i:Nat) (d:α):(a :: l).getD (i + 1) d = l.getD i d:=(rfl)
theorem zia {α:Type} (i:Nat) (d:α):([]:List α).getD i d = d:=(rfl)
theorem zib (s:St) (d:Nat) (kd:RK) (p:Nat→PV):zcI s d kd p = (s.row d ⟨(s.rw d).ver + 1,kd⟩).put (some d) (p ((s.rw d).ver + 1)):=(rfl)
theorem zic (s:St) (d k:Nat) (kd:RK):zcG s d k kd = (s.row k ⟨(s.rw k).ver + 1,kd⟩).put (some d) (.own k ((s.rw k).ver + 1)):=(rfl)
structure Dm {α:Type} (K:α):Type
def kk {α:Type} (K:α) (_:Dm K:=⟨⟩):α:=K
theorem zz9 {α β:Type} (K:α→β) (u:Dm K) (x:α):kk K u x = K x:=(rfl)
def evK (p:PV) (K:PV→Prop):Prop:=K p
theorem zEt (v:Value) (K:PV→Prop):evK (.v v) K = K (.v v):=(rfl)
theorem zBw (fr:Bool) (z:Nat) (c:List PV) (K:PV→Prop):evK (.sl fr z c) K = K (.sl fr z c):=(rfl)
theorem zwf (j v:Nat) (K:PV→Prop):evK (.own j v) K = K (.own j v):=(rfl)
theorem zwg (j v o:Nat) (K:PV→Prop):evK (.ref j v o) K = K (.ref j v o):=(rfl)
theorem zrV (fr:Bool) (c:List PV) (o:Nat) (K:PV→Prop):evK (.eref fr c o) K = K (.eref fr c o):=(rfl)
theorem zBx (c:List PV) (K:PV→Prop):evK (.ag c) K = K (.ag c):=(rfl)
theorem zwh (c:List PV) (K:PV→Prop):evK (.tup c) K = K (.tup c):=(rfl)
theorem zwi (f:FuncId) (c:List PV) (K:PV→Prop):evK (.clo f c) K = K (.clo f c):=(rfl)
theorem zrW (K:PV→Prop):evK .junk K = K .junk:=(rfl)
section
variable {P:Program} {T:Tab} {ops:Array Oper} {Q:AX→St→Prop} {s:St}
def zAa (p:PV) (A B:Prop):Prop:=match p with | .v (.bool b)=>(b = true→A)∧(b = false→B) | _=>False
def c1 (b:Bool) (A B:Prop):Prop:=(b = true→A)∧(b = false→B)
def c2 (b:Bool) (A B:Prop):Prop:=(b = true→A)∧(b = false→B)
def d1 (b:Bool) (A B:Prop):Prop:=(b = false→A)∧(b = true→B)
def d2 (b:Bool) (A B:Prop):Prop:=(b = false→A)∧(b = true→B)
theorem zEu (A B:Prop):c1 true (kk A) (kk B) = A:=by simp [c1,kk]
theorem zEv (A B:Prop):c1 false (kk A) (kk B) = B:=by simp [c1,kk]
theorem zEw (A B:Prop):c2 true (kk A) (kk B) = A:=by simp [c2,kk]
theorem zEx (A B:Prop):c2 false (kk A) (kk B) = B:=by simp [c2,kk]
theorem zEy (A B:Prop):d1 true (kk A) (kk B) = B:=by simp [d1,kk]
theorem zEz (A B:Prop):d1 false (kk A) (kk B) = A:=by simp [d1,kk]
theorem zEA (A B:Prop):d2 true (kk A) (kk B) = B:=by simp [d2,kk]
theorem zEB (A B:Prop):d2 false (kk A) (kk B) = A:=by simp [d2,kk]
theorem zBy (b:Bool) (A B:Prop):c1 b A B = c2 b A B:=(rfl)
theorem zBz (b:Bool) (A B:Prop):c2 b (kk A) (kk B) = ((b = true→A)∧(b = false→B)):=(rfl)
theorem zBA (b:Bool) (A B:Prop):d1 b A B = d2 b A B:=(rfl)
theorem zBB (b:Bool) (A B:Prop):d2 b (kk A) (kk B) = ((b = false→A)∧(b = true→B)):=(rfl)
theorem zkR (b:Bool) (A B:Prop):zAa (.v (.bool b)) A B = c1 b A B:=(rfl)
theorem zrX [zag]:cwp P T .skip Q s = Q .norm s:=(rfl)
theorem zhq [zag] (id:Nat):cwp P T (.region id ops false) Q s = zqP P T ops ops.toList s (Q .norm):=(rfl)
theorem zhr [zag] (id:Nat):cwp P T (.region id ops true) Q s = (zju ops = true∧zeC P T ops [] ops.toList s (Q .norm)):=(rfl)
theorem zwj [zag] (x y:Code):cwp P T (.seq x y) Q s = cwp P T x (AX.seq (cwp P T y Q) Q) s:=(rfl)
theorem zrY [zag] (c:Operand) (x y:Code):cwp P T (.cond c x y) Q s = zAa (s.ev c) (kk (cwp P T x Q s)) (kk (cwp P T y Q s)):=(rfl)
theorem znE [zag] (id:Nat) (x:Code):cwp P T (.block id x) Q s = cwp P T x (AX.blk id Q) s:=(rfl)
theorem zrZ [zag] (x:Code):cwp P T (.loop x) Q s = zqG (kk (cwp P T x)) (kk Q) s:=(rfl)
theorem zr0 [zag] (id:Nat):cwp P T (.exit id) Q s = Q (.exit id) s:=(rfl)
theorem zwk [zag]:cwp P T .ret Q s = Q .ret s:=(rfl)
theorem znF [zag] (l:Nat):cwp P T (.label l) Q s = Q .norm s:=(rfl)
variable {K:St→Prop}
theorem zr1:AX.seq K Q .norm s = K s:=(rfl)
theorem zwl:AX.seq K Q .ret s = Q .ret s:=(rfl)
theorem zr2 (id:Nat):AX.seq K Q (.exit id) s = Q (.exit id) s:=(rfl)
theorem zr3 (id:Nat):AX.blk id Q .norm s = Q .norm s:=(rfl)
theorem zwm (id:Nat):AX.blk id Q .ret s = Q .ret s:=(rfl)
theorem zf5 (id:Nat):AX.blk id Q (.exit id) s = Q .norm s:=by simp [AX.blk]
theorem ziD (id i:Nat) (h:i ≠ id):AX.blk id Q (.exit i) s = Q (.exit i) s:=by simp [AX.blk,h]
theorem zr4 (rs:List ResultVar) (rv:RV):zFJ T rs rv .ret s = zuE T s rs rv:=(rfl)
theorem znG (rs:List ResultVar) (rv:RV):zFJ T rs rv .norm s = zuE T s rs rv:=(rfl)
theorem zr5 [zag]:zqP P T ops [] s K = K s:=(rfl)
theorem ziE:∀ (n:Nat) (p:Nat→Bool),(∀ k,k < n→p k = true)→zcC n p = true:=by
 intro n
 induction n with
 | zero=>intro p _;rfl
 | succ n ih=>intro p h;simp only [zcC,Bool.and_eq_true];exact ⟨h n (by omega),ih p fun k hk=>h k (by omega)⟩
def clr (e:Ent):List Ent→Bool | []=>true | e' :: l=>!zlP e' e && clr e l
def zf6:List Ent→Bool | []=>true | e :: l=>clr e l && zf6 l
theorem zqx:∀ {l:List Ent},zf6 l = true→l.Pairwise fun a b=>zlP b a = false:=by
 intro l
 induction l with
 | nil=>intro _;exact .nil
 | cons e l ih =>
   intro h
   simp only [zf6,Bool.and_eq_true] at h
   refine List.pairwise_cons.2 ⟨?_,ih h.2⟩
   have:∀ l':List Ent,clr e l' = true→∀ b ∈ l',zlP b e = false:=by
    intro l'
    induction l' with
    | nil=>intro _ b hb;cases hb
    | cons x l' ih' =>
      intro h b hb
      simp only [clr,Bool.and_eq_true,Bool.not_eq_true'] at h
      rcases List.mem_cons.1 hb with rfl | hb
      ·exact h.1
      ·exact ih' h.2 b hb
   exact this l h.1
theorem zuy [zag] {l:List Ent} (h:zf6 l = true):zkz ops l.reverse = true:=by
 have hp:l.reverse.Pairwise fun a b=>zlP a b = false:=List.pairwise_reverse.2 (zqx h)
 unfold zkz
 refine ziE _ _ fun j hj=>ziE _ _ fun i hi=>?_
 split
 ·rename_i a b ha hb
  obtain ⟨h1,rfl⟩:=List.getElem?_eq_some_iff.1 ha
  obtain ⟨h2,rfl⟩:=List.getElem?_eq_some_iff.1 hb
  have:=List.pairwise_iff_getElem.1 hp i j h1 h2 hi
  rw [this];rfl
 ·rfl
def zwn (ops:Array Oper) (acc:List Ent) (A:Prop):Prop:=zkz ops acc.reverse = true∧A
def lnK (b:Bool) (ops:Array Oper) (acc:List Ent) (A:Prop):Prop:=match b with | true=>A | false=>zkz ops acc.reverse = true∧A
theorem znH [zag] (acc:List Ent) (A:Prop):zwn ops acc (kk A) = lnK (zf6 acc) ops acc (kk A):=by
 unfold zwn lnK
 cases h:zf6 acc with
 | true=>simp [zuy h,kk]
 | false=>rfl
theorem zEC (acc:List Ent) (A:Prop):lnK true ops acc (kk A) = A:=(rfl)
theorem zED (acc:List Ent) (A:Prop):lnK false ops acc (kk A) = (zkz ops acc.reverse = true∧A):=(rfl)
theorem zBC:zf6 [] = true:=(rfl)
theorem zwo (e:Ent) (l:List Ent):zf6 (e :: l) = (clr e l && zf6 l):=(rfl)
theorem zwp (e:Ent):clr e [] = true:=(rfl)
theorem zr6 (e e':Ent) (l:List Ent):clr e (e' :: l) = (!zlP e' e && clr e l):=(rfl)
def znp (l:List Nat) (t:Tc):Bool:=l.any t.has
theorem zr7 (t:Tc):znp [] t = false:=(rfl)
theorem znI (k:Nat) (l:List Nat) (t:Tc):znp (k :: l) t = (t.has k || znp l t):=(rfl)
theorem zwq (k:Nat):(Tc.ids []).has k = false:=(rfl)
theorem zr8 (a:Nat) (l:List Nat) (k:Nat):(Tc.ids (a :: l)).has k = (a % 1000 == k % 1000 || (Tc.ids l).has k):=(rfl)
theorem zwr (d k:Nat):(Tc.res d).has k = (k % 1000 == d % 1000):=(rfl)
theorem zBD (a b:List Nat):zlP ⟨a,.ids []⟩ ⟨b,.ids []⟩ = false:=by
 have e:∀ l:List Nat,l.any (Tc.ids []).has = false:=fun l=>by
  rw [List.any_eq_false];intro x _;simp [Tc.has]
 simp [zlP,e,zfw]
theorem zws (a b t u:List Nat):zlP ⟨a,.ids t⟩ ⟨b,.ids u⟩ = (znp a (.ids u) || (znp b (.ids t) || znp t (.ids u))):=by simp [zlP,znp,zfw,Bool.or_assoc]
theorem zwt (a b t:List Nat) (d:Nat):zlP ⟨a,.ids t⟩ ⟨b,.res d⟩ = (znp a (.res d) || (znp b (.ids t) || znp t (.res d))):=by simp [zlP,znp,zfw,Bool.or_assoc]
theorem zwu (a b t:List Nat) (d:Nat):zlP ⟨a,.res d⟩ ⟨b,.ids t⟩ = (znp a (.ids t) || (znp b (.res d) || znp t (.res d))):=by simp [zlP,znp,zfw,Bool.or_assoc]
theorem zwv (a b:List Nat) (d d':Nat):zlP ⟨a,.res d⟩ ⟨b,.res d'⟩ = (znp a (.res d') || (znp b (.res d) || (d % 1000 == d' % 1000))):=by simp [zlP,znp,zfw,Bool.or_assoc]
theorem znJ [zag] (acc:List Ent):zeC P T ops acc [] s K = zwn ops acc (kk (K s)):=(rfl)
def gK (d:Option Nat) (want:Bool) (s:St) (A B:Nat→Prop) (N:Prop):Prop :=
 match d with
 | some d=>(match s.sl d with | .v (.bool b)=>(b = want→A d)∧(b = !want→B d) | .v (.tuple _)=>N | _=>False)
 | none=>False
def gK1 (want:Bool) (p:PV) (A B N:Prop):Prop:=match p with | .v (.bool b)=>(b = want→A)∧(b = !want→B) | .v (.tuple _)=>N | _=>False
theorem zww (d:Nat) (want:Bool) (A B:Nat→Prop) (N:Prop):gK (some d) want s A B N = gK1 want (s.sl d) (kk (A d)) (kk (B d)) N:=(rfl)
theorem znK (want:Bool) (A B N:Prop):gK1 want (.v undef) A B (kk N) = N:=(rfl)
theorem zr9 (b:Bool) (A B N:Prop):gK1 true (.v (.bool b)) A B N = c1 b A B:=(rfl)
theorem znL (b:Bool) (A B N:Prop):gK1 false (.v (.bool b)) A B N = d1 b A B:=(rfl)
theorem znM [zag] {dst:Option Nat} {op:Op} {ty:TypeId} {pos:String} {af:Array Edge} {os:List Oper} :
 zqP P T ops (⟨dst,op,ty,pos,af,none⟩ :: os) s K = zdI P T s ⟨dst,op,ty,pos,af,none⟩ (fun s2=>zqP P T ops os s2 K):=(rfl)
theorem zkS [zag] {dst:Option Nat} {op:Op} {ty:TypeId} {pos:String} {af:Array Edge} {j:Nat} {want:Bool} {os:List Oper} :
 zqP P T ops (⟨dst,op,ty,pos,af,some (j,want)⟩ :: os) s K = gK ((ops[j]?).bind (·.dst)) want s
  (kk fun d=>zdI P T (s.put (some d) (.v (.bool want))) ⟨dst,op,ty,pos,af,some (j,want)⟩ (fun s2=>zqP P T ops os s2 K))
  (kk fun d=>zqP P T ops os ((s.put (some d) (.v (.bool !want))).put dst (.v undef)) K) (kk (zqP P T ops os (s.put dst (.v undef)) K)):=(rfl)
theorem zBE (l:List Oper) (j:Nat):((⟨l⟩:Array Oper)[j]?) = l[j]?:=by simp
theorem getElem?_zero {α:Type} (a:α) (l:List α):(a :: l)[0]? = some a:=(rfl)
theorem getElem?_succ {α:Type} (a:α) (l:List α) (i:Nat):(a :: l)[i + 1]? = l[i]?:=(rfl)
theorem znN (o:Oper):(some o).bind (·.dst) = o.dst:=(rfl)
theorem zkT [zag] {dst:Option Nat} {op:Op} {ty:TypeId} {pos:String} {af:Array Edge} {os:List Oper} (acc:List Ent) :
 zeC P T ops acc (⟨dst,op,ty,pos,af,none⟩ :: os) s K = dK P T s ⟨dst,op,ty,pos,af,none⟩ (kk fun e s2=>zeC P T ops (e :: acc) os s2 K):=(rfl)
theorem ziF [zag] {dst:Option Nat} {op:Op} {ty:TypeId} {pos:String} {af:Array Edge} {j:Nat} {want:Bool} {os:List Oper} (acc:List Ent) :
 zeC P T ops acc (⟨dst,op,ty,pos,af,some (j,want)⟩ :: os) s K = gK ((ops[j]?).bind (·.dst)) want s
  (kk fun d=>dK P T (s.put (some d) (.v (.bool want))) ⟨dst,op,ty,pos,af,some (j,want)⟩ (kk fun e s2=>zeC P T ops (e :: acc) os s2 K))
  (kk fun d=>zeC P T ops (⟨[],.ids []⟩ :: acc) os ((s.put (some d) (.v (.bool !want))).put dst (.v undef)) K) (kk (zeC P T ops (⟨[],.ids []⟩ :: acc) os (s.put dst (.v undef)) K)):=(rfl)
def zcW (l:List PV) (acc:List Nat) (Kn:List Nat→Prop):Prop:=Kn (acc ++ l.flatMap zdT)
def znq (l:List PV) (acc:List Nat) (Kn:List Nat→Prop):Prop:=Kn (acc ++ l.flatMap zCi)
section
variable (l:List PV) (acc:List Nat) (Kn:List Nat→Prop)
theorem zsa:zcW [] acc (kk Kn) = Kn acc:=by simp [zcW,kk]
theorem zBF (x:Value):zcW (.v x :: l) acc (kk Kn) = zcW l acc (kk Kn):=(rfl)
theorem zwx (fr:Bool) (z:Nat) (c:List PV):zcW (.sl fr z c :: l) acc (kk Kn) = zcW l acc (kk Kn):=(rfl)
theorem znO (fr:Bool) (c:List PV) (o:Nat):zcW (.eref fr c o :: l) acc (kk Kn) = zcW l acc (kk Kn):=(rfl)
theorem zsb (f:FuncId) (c:List PV):zcW (.clo f c :: l) acc (kk Kn) = zcW l acc (kk Kn):=(rfl)
theorem zsc (c:List PV):zcW (.tup c :: l) acc (kk Kn) = zcW l acc (kk Kn):=(rfl)
theorem znP:zcW (.junk :: l) acc (kk Kn) = zcW l acc (kk Kn):=(rfl)
theorem zsd (k v:Nat):zcW (.own k v :: l) acc (kk Kn) = zcW l (acc ++ [k % 1000]) (kk Kn):=by simp [zcW,kk,zdT,List.flatMap_cons]
theorem zse (k v o:Nat):zcW (.ref k v o :: l) acc (kk Kn) = zcW l (acc ++ [k % 1000]) (kk Kn):=by simp [zcW,kk,zdT,List.flatMap_cons]
theorem zwy (c:List PV):zcW (.ag c :: l) acc (kk Kn) = znq c acc (kk fun acc'=>zcW l acc' (kk Kn)):=by simp [zcW,znq,kk,zdT,List.flatMap_cons]
theorem zsf:znq [] acc (kk Kn) = Kn acc:=by simp [znq,kk]
theorem zBG (x:Value):znq (.v x :: l) acc (kk Kn) = znq l acc (kk Kn):=(rfl)
theorem zwz (fr:Bool) (z:Nat) (c:List PV):znq (.sl fr z c :: l) acc (kk Kn) = znq l acc (kk Kn):=(rfl)
theorem znQ (fr:Bool) (c:List PV) (o:Nat):znq (.eref fr c o :: l) acc (kk Kn) = znq l acc (kk Kn):=(rfl)
theorem zsg (f:FuncId) (c:List PV):znq (.clo f c :: l) acc (kk Kn) = znq l acc (kk Kn):=(rfl)
theorem zsh (k v:Nat):znq (.own k v :: l) acc (kk Kn) = znq l (acc ++ [k % 1000]) (kk Kn):=by simp [znq,kk,zCi,List.flatMap_cons]
theorem zsi (k v o:Nat):znq (.ref k v o :: l) acc (kk Kn) = znq l (acc ++ [k % 1000]) (kk Kn):=by simp [znq,kk,zCi,List.flatMap_cons]
end
def zeo (rw:Nat→Row) (n:Nat) (l:List PV) (acc:List Nat) (Kn:List Nat→Prop):Prop:=Kn (acc ++ l.flatMap (zdH rw n))
def ziG (r:Row) (rw:Nat→Row) (n:Nat) (acc:List Nat) (Kn:List Nat→Prop):Prop:=Kn (acc ++ (match r.kind with | .box _ c=>c.flatMap (zdH rw n) | _=>[]))
def ziH (r:Row) (k:Nat) (acc:List Nat) (Kn:List Nat→Prop):Prop:=Kn (acc ++ (match r.kind with | .tab _ c=>zqJ k c | _=>[]))
section
variable (rw:Nat→Row) (n:Nat) (l:List PV) (acc:List Nat) (Kn:List Nat→Prop)
theorem zsj:zeo rw n [] acc (kk Kn) = Kn acc:=by simp [zeo,kk]
theorem znR:zeo rw 0 l acc (kk Kn) = Kn acc:=by
 have:l.flatMap (zdH rw 0) = []:=by simp [zdH]
 unfold zeo kk
 rw [this,List.append_nil]
theorem zBH (x:Value):zeo rw (n + 1) (.v x :: l) acc (kk Kn) = zeo rw (n + 1) l acc (kk Kn):=by simp [zeo,zdH,List.flatMap_cons]
theorem zwA (fr:Bool) (z:Nat) (c:List PV):zeo rw (n + 1) (.sl fr z c :: l) acc (kk Kn) = zeo rw (n + 1) l acc (kk Kn):=by simp [zeo,zdH,List.flatMap_cons]
theorem znS (fr:Bool) (c:List PV) (o:Nat):zeo rw (n + 1) (.eref fr c o :: l) acc (kk Kn) = zeo rw (n + 1) l acc (kk Kn):=by simp [zeo,zdH,List.flatMap_cons]
theorem znT:zeo rw (n + 1) (.junk :: l) acc (kk Kn) = zeo rw (n + 1) l acc (kk Kn):=by simp [zeo,zdH,List.flatMap_cons]
theorem zsk (k v:Nat):zeo rw (n + 1) (.own k v :: l) acc (kk Kn) = ziH (rw k) k (acc ++ [k % 1000]) (kk fun acc'=>zeo rw (n + 1) l acc' (kk Kn)):=by
 simp only [zeo,ziH,kk,List.flatMap_cons]
 rw [zdH]
 cases (rw k).kind <;> simp
theorem zkU (k ver e z:Nat) (fz:Bool) (c:List PV):ziH ⟨ver,.sli e z fz c⟩ k acc (kk Kn) = Kn acc:=by simp [ziH,kk]
theorem zkV (k ver:Nat):ziH ⟨ver,.nil⟩ k acc (kk Kn) = Kn acc:=by simp [ziH,kk]
theorem zkW (k ver e:Nat) (c:List PV):ziH ⟨ver,.tab e c⟩ k acc (kk Kn) = Kn (acc ++ zqJ k c):=(rfl)
theorem ziI [zag] (k:Nat) (p:List Nat):zqJ k (zax k p) = []:=by
 unfold zqJ zax
 rw [List.flatMap_eq_nil_iff]
 intro q hq
 obtain ⟨j,_,rfl⟩:=List.mem_map.1 hq
 simp [zaa]
theorem znU (rw':Nat→Row) (k m:Nat):zqJ k (zaR rw' k 0 m) = []:=by
 unfold zqJ zaR
 rw [List.flatMap_eq_nil_iff]
 intro q hq
 obtain ⟨j,_,rfl⟩:=List.mem_map.1 hq
 simp [zaj]
theorem zwB (c:List PV):zeo rw (n + 1) (.ag c :: l) acc (kk Kn) = zeo rw n c acc (kk fun acc'=>zeo rw (n + 1) l acc' (kk Kn)):=by simp [zeo,zdH,List.flatMap_cons,kk]
theorem zsl (f:FuncId) (c:List PV):zeo rw (n + 1) (.clo f c :: l) acc (kk Kn) = zeo rw n c acc (kk fun acc'=>zeo rw (n + 1) l acc' (kk Kn)):=by simp [zeo,zdH,List.flatMap_cons,kk]
theorem zsm (k v o:Nat):zeo rw (n + 1) (.ref k v o :: l) acc (kk Kn) = ziG (rw k) rw n (acc ++ [k % 1000]) (kk fun acc'=>zeo rw (n + 1) l acc' (kk Kn)):=by
 simp only [zeo,ziG,kk,List.flatMap_cons]
 rw [zdH]
 cases (rw k).kind <;> simp
theorem zkX (ver:Nat) (t:TypeId) (c:List PV):ziG ⟨ver,.box t c⟩ rw n acc (kk Kn) = zeo rw n c acc (kk Kn):=(rfl)
theorem zkY (ver e z:Nat) (fz:Bool) (c:List PV):ziG ⟨ver,.sli e z fz c⟩ rw n acc (kk Kn) = Kn acc:=by simp [ziG,kk]
theorem zkZ (ver:Nat):ziG ⟨ver,.nil⟩ rw n acc (kk Kn) = Kn acc:=by simp [ziG,kk]
end
section
variable {dst:Option Nat} {ty:TypeId} {pos:String} {af:Array Edge} {g:Option (Nat × Bool)}
theorem zsn [zag] (x:Operand):opK P T s ⟨dst,.move x,ty,pos,af,g⟩ K = evK (s.ev x) (kk fun p=>K (s.put dst p)):=(rfl)
theorem zfo [zag] (t:Nat):opK P T s ⟨dst,.assign (.tmp t),ty,pos,af,g⟩ K = evK (s.sl t) (kk fun p=>K (s.put dst p)):=(rfl)
theorem zfp [zag] (k:IntKind) (n:Int):opK P T s ⟨dst,.assign (.const (.int k n)),ty,pos,af,g⟩ K = K (s.put dst (.v (.int k n))):=(rfl)
theorem zex [zag] (b:Bool):opK P T s ⟨dst,.assign (.const (.bool b)),ty,pos,af,g⟩ K = K (s.put dst (.v (.bool b))):=(rfl)
theorem zdD [zag] (b:ByteArray):opK P T s ⟨dst,.assign (.const (.string b)),ty,pos,af,g⟩ K = K (s.put dst (.v (.string b))):=(rfl)
theorem zfq [zag] (cs:List Value):opK P T s ⟨dst,.assign (.const (.agg ⟨cs⟩)),ty,pos,af,g⟩ K = K (s.put dst (.ag (cs.map PV.v))):=(rfl)
def nilRow (T:Tab) (k:TK):RK:=match k with | .sli e=>.sli e (T e).size false [] | _=>.nil
theorem zk0 (e:TypeId):nilRow T (.sli e) = .sli e (T e).size false []:=(rfl)
theorem zfr [zag] (d:Nat):opK P T s ⟨some d,.assign (.const (.slice none 0 0)),ty,pos,af,g⟩ K = K (zcI s d (nilRow T (T ty).k) fun v=>.own d v):=(rfl)
theorem zso [zag] (c x y:Operand):opK P T s ⟨dst,.pick c x y,ty,pos,af,g⟩ K = zAa (s.ev c) (kk (evK (s.ev x) (kk fun p=>K (s.put dst p)))) (kk (evK (s.ev y) (kk fun p=>K (s.put dst p)))):=(rfl)
theorem zwC [zag] (op:BinOp) (t t2:TypeId) (x y:Operand):opK P T s ⟨dst,.binOp op t x y t2,ty,pos,af,g⟩ K = zcM T op t (s.ev x) (s.ev y) (kk fun p=>K (s.put dst p)):=(rfl)
theorem zBI [zag] (op:UnOp) (t:TypeId) (x:Operand):opK P T s ⟨dst,.unOp op t x,ty,pos,af,g⟩ K = unK op (s.ev x) (kk fun p=>K (s.put dst p)):=(rfl)
theorem ziJ [zag] (a b:TypeId) (x:Operand):opK P T s ⟨dst,.convert a b x,ty,pos,af,g⟩ K = zgw T s.rw a b (s.ev x) (kk fun p=>K (s.put dst p)):=(rfl)
theorem zsp [zag] (t:TypeId) (x:Operand):opK P T s ⟨dst,.load t x,ty,pos,af,g⟩ K = zqn s.rw (s.ev x) (kk fun m c off=>ldK T t m c off (kk fun p=>K (s.put dst p))):=(rfl)
theorem zf7 [zag] (t:TypeId) (x:Operand) (f:Nat):opK P T s ⟨dst,.fieldAddr t x f,ty,pos,af,g⟩ K =
 zdu T t f (kk fun o _=>zjI (s.ev x) = true∧zdb s.rw (s.ev x) (kk (evK (zdK (s.ev x) o) (kk fun p=>K (s.put dst p))))):=(rfl)
def agK (p:PV) (K:List PV→Prop):Prop:=match p with | .ag c=>K c | _=>False
theorem zBJ (c:List PV) (Kc:List PV→Prop):agK (.ag c) Kc = Kc c:=(rfl)
def zFV (p:PV) (K:List PV→Prop):Prop:=match p with | .tup c=>K c | _=>False
theorem zsq (c:List PV) (Kc:List PV→Prop):zFV (.tup c) Kc = Kc c:=(rfl)
theorem ziK [zag] (t:TypeId) (x:Operand) (f:Nat):opK P T s ⟨dst,.field t x f,ty,pos,af,g⟩ K =
 agK (s.ev x) (kk fun c=>zdu T t f (kk fun o ft=>ldK T ft .asis c o (kk fun p=>K (s.put dst p)))):=by
 show zdu T t f (fun o ft=>(match s.ev x with | .ag c=>ldK T ft .asis c o fun p=>K (s.put dst p) | _=>False)) = _
 unfold zdu agK kk
 cases s.ev x
 case ag c=>rfl
 all_goals
  refine propext ⟨fun h=>?_,fun h=>h.elim⟩
  obtain ⟨_,h⟩:=h
  split at h
  ·split at h
   ·exact h.2.elim
   ·exact h.elim
  ·exact h.elim
theorem zf8 [zag] (t:TypeId) (x i:Operand):opK P T s ⟨dst,.indexAddr t x i,ty,pos,af,g⟩ K = zbk T s.rw t (s.ev x) (s.ev i) (kk fun p=>K (s.put dst p)):=(rfl)
def zsr (T:Tab) (t:TypeId) (x i:PV) (K:PV→Prop):Prop:=0 < (T t).size∧(match (T t).k,x,i with
 | .str,.v (.string s),.v (.int _ n)=>0 ≤ n∧n.toNat < s.size∧K (.v (.int .u8 ((s.data.toList.getD n.toNat 0).toNat:Int)))
 | .arr len e,.ag c,.v (.int _ n)=>0 ≤ n∧n < len∧ldK T e .asis c (n.toNat * (T e).size) K
 | _,_,_=>False)
theorem znV [zag] (t:TypeId) (x i:Operand):opK P T s ⟨dst,.index t x i,ty,pos,af,g⟩ K = zsr T t (s.ev x) (s.ev i) (kk fun p=>K (s.put dst p)):=(rfl)
theorem ziL [zag] (x:Operand) (i:Nat):opK P T s ⟨dst,.extract x i,ty,pos,af,g⟩ K = zFV (s.ev x) (kk fun ps=>i < ps.length∧evK (ps.getD i .junk) (kk fun p=>K (s.put dst p))):=(rfl)
theorem zhs [zag] (x:Operand):opK P T s ⟨dst,.nilCheck x,ty,pos,af,g⟩ K = zdb s.rw (s.ev x) (kk (evK (s.ev x) (kk fun p=>K (s.put dst p)))):=(rfl)
theorem zht [zag] (f:FuncId) (caps:Array Operand):opK P T s ⟨dst,.makeFunc (.func f) #[] caps,ty,pos,af,g⟩ K = K (s.put dst (.clo f (caps.toList.map s.ev))):=by
 show (#[] = (#[]:Array Operand)∧K (s.put dst (.clo f (caps.toList.map s.ev)))) = _
 simp
theorem zwD [zag] (x:Operand) (t:TypeId):opK P T s ⟨dst,.call ⟨.builtin .len,#[x],#[t]⟩,ty,pos,af,g⟩ K = zyp T s.rw t (s.ev x) (kk fun p=>K (s.put dst p)):=(rfl)
theorem zwE [zag] (x y:Operand) (ts:Array TypeId):opK P T s ⟨dst,.call ⟨.builtin .max,#[x,y],ts⟩,ty,pos,af,g⟩ K = zcv true (s.ev x) (s.ev y) (kk fun p=>K (s.put dst p)):=(rfl)
theorem zwF [zag] (x y:Operand) (ts:Array TypeId):opK P T s ⟨dst,.call ⟨.builtin .min,#[x,y],ts⟩,ty,pos,af,g⟩ K = zcv false (s.ev x) (s.ev y) (kk fun p=>K (s.put dst p)):=(rfl)
theorem zk1 [zag] (d:Nat) (x y:Operand) (t t2:TypeId):opK P T s ⟨some d,.call ⟨.builtin .append,#[x,y],#[t,t2]⟩,ty,pos,af,g⟩ K = zjC T s d t t2 (s.ev x) (s.ev y) (kk K):=(rfl)
def zzZ (p:PV) (K:FuncId→List PV→Prop):Prop:=match p with | .clo g caps=>K g caps | _=>False
theorem zss (g:FuncId) (c:List PV) (Kc:FuncId→List PV→Prop):zzZ (.clo g c) Kc = Kc g c:=(rfl)
def zhY [zag] (P:Program) (f:FuncId) (args:List PV) (K:RV→Prop) (M:Prop):Prop:=(∃ rv,AC P f args rv∧K rv) ∨ M
theorem zaf [zag] {f:FuncId} {args:List PV} {Kr:RV→Prop} {u:Dm Kr} {rv:RV} {M:Prop} (h:AC P f args rv) (hk:Kr rv):zhY P f args (kk Kr u) M:=.inl ⟨rv,h,hk⟩
def zqy [zag] (P:Program) (f:FuncId) (args raw:List PV) (dst:Option Nat) (s:St) (K:St→Prop):Prop:=zHW P s f raw dst K ∨ zFO P s f raw dst K ∨ zC3 P s f args dst K ∨ askG P s f raw dst K
theorem zqz [zag] {f:FuncId} {args raw lent:List PV} {ins:List LR} {outs:List (List PV)} {x:Value} {Ka:RV→Prop} {dst:Option Nat} {us:Dm s} {u:Dm K} (h:AM P f args ins outs x) (js:List (Nat × Nat))
 (hg:GiveL js raw args) (hh:zmI s.rw js ins) (hn:(js.map (·.1)).Nodup) (hk:K ((s.wrote js ins outs).put dst (.v x))):zhY P f lent Ka (zqy P f lent raw dst (kk s us) (kk K u)):=.inr (.inl ⟨js,ins,args,outs,x,h,hg,hh,hn,hk⟩)
theorem zCO [zag] {f:FuncId} {args raw lent:List PV} {k v e e2:Nat} {p:List Nat} {rows rows':List (List PV)} {res:TR} {Ka:RV→Prop} {dst:Option Nat} {us:Dm s} {u:Dm K} (h:AT P f args e e2 rows rows' res)
 (hg:GiveL [(k,v)] raw args) (ht:TabIs s.rw k v e e2 p rows) (hn:p.Nodup)
 (hk:∀ p':List Nat,p'.Perm p→res.next (s.tabbed k v e e2 p' rows') k v dst K):zhY P f lent Ka (zqy P f lent raw dst (kk s us) (kk K u)) :=
 .inr (.inr (.inl ⟨k,v,e,e2,p,rows,rows',args,res,h,hg,ht,hn,hk⟩))
theorem zqA [zag] {f:FuncId} {args raw lent:List PV} {R0:Nat→Row} {post:(Nat→Row)→PV→Prop} {Ka:RV→Prop} {dst:Option Nat} {us:Dm s} {u:Dm K} (h:AG P f args R0 post) (rho:Nat→Option Nat) (Ln:Nat→Prop) (hl:GvL rho Ln R0 s.rw args raw) (hg:Give rho Ln R0 s.rw)
 (hk:∀ R1 p,post R1 p→∃ (rho1:Nat→Option Nat) (nv:Nat→Nat) (nl:Bool),Back rho rho1 R1 nv nl Ln R0 s.rw∧∀ S:St,After s S dst rho1 nv nl R1 p→K S):zhY P f lent Ka (zqy P f lent raw dst (kk s us) (kk K u)) :=
 .inr (.inr (.inr (.inr ⟨args,R0,post,rho,Ln,h,hl,hg,hk⟩)))
def zgS (s:St) (l:List Operand):List PV:=l.map fun x=>zcn s.rw zfi (s.ev x)
theorem znW:zgS s [] = []:=(rfl)
theorem zk2 (x:Operand) (l:List Operand):zgS s (x :: l) = zcn s.rw 3 (s.ev x) :: zgS s l:=(rfl)
def zwG (s:St) (l:List Operand):List PV:=l.map s.ev
theorem zst:zwG s [] = []:=(rfl)
theorem znX (x:Operand) (l:List Operand):zwG s (x :: l) = s.ev x :: zwG s l:=(rfl)
theorem zAb [zag] (f:Operand) (args:List Operand) (Kr:RV→Prop):zdZ P s.rw s.ev f ⟨args⟩ Kr = zzZ (s.ev f) (kk fun g caps=>zhY P g (zgS s args ++ caps.map (zcn s.rw 3)) (kk Kr) False):=by
 unfold zdZ zzZ zhY
 cases s.ev f <;> first | rfl | simp [kk,zgS,zfi]
theorem zsu [zag] (f:Operand) (args:List Operand) (Kr:RV→Prop) (dst:Option Nat):((zdZ P s.rw s.ev f ⟨args⟩ Kr ∨ zx8 P s f ⟨args⟩ dst K) ∨ (match s.ev f with
 | .clo g caps=>zFO P s g (args.map s.ev ++ caps) dst K ∨ zC3 P s g ((args.map fun x=>zcn s.rw zfi (s.ev x)) ++ caps.map (zcn s.rw zfi)) dst K ∨ askG P s g (args.map s.ev ++ caps) dst K
 | _=>False)) =
 zzZ (s.ev f) (kk fun g caps=>zhY P g (zgS s args ++ caps.map (zcn s.rw 3)) (kk Kr) (zqy P g (zgS s args ++ caps.map (zcn s.rw 3)) (zwG s args ++ caps) dst (kk s) (kk K))):=by
 unfold zdZ zx8 zzZ
 cases s.ev f <;> first | (simp;done) | skip
 unfold kk zhY zqy
 exact propext or_assoc
theorem znY [zag] (d:Nat) (f:Operand) (args:List Operand) (ts:Array TypeId):zdI P T s ⟨some d,.call ⟨.value f,⟨args⟩,ts⟩,ty,pos,af,g⟩ K =
 zzZ (s.ev f) (kk fun g caps=>zhY P g (zgS s args ++ caps.map (zcn s.rw 3)) (kk fun rv=>K (zak s d rv)) (zqy P g (zgS s args ++ caps.map (zcn s.rw 3)) (zwG s args ++ caps) (some d) (kk s) (kk K))):=zsu (P:=P) f args _ _
theorem zfs [zag] (f:Operand) (args:List Operand) (ts:Array TypeId):zdI P T s ⟨none,.call ⟨.value f,⟨args⟩,ts⟩,ty,pos,af,g⟩ K =
 zzZ (s.ev f) (kk fun g caps=>zhY P g (zgS s args ++ caps.map (zcn s.rw 3)) (kk fun _=>K s) (zqy P g (zgS s args ++ caps.map (zcn s.rw 3)) (zwG s args ++ caps) none (kk s) (kk K))):=zsu (P:=P) f args _ _
theorem znZ [zag] (b:Builtin) (args:Array Operand) (ts:Array TypeId) (h:(match b with | .append=>false | _=>true) = true):zdI P T s ⟨dst,.call ⟨.builtin b,args,ts⟩,ty,pos,af,g⟩ K = opK P T s ⟨dst,.call ⟨.builtin b,args,ts⟩,ty,pos,af,g⟩ K:=by
 cases b <;> first | rfl | cases h
theorem zn0 [zag] (d:Nat) (t:TypeId):opK P T s ⟨some d,.alloc t,ty,pos,af,g⟩ K = (0 < (T t).size∧K (zcI s d (.box t ((T t).zero.map PV.v)) fun v=>.ref d v 0)):=(rfl)
theorem zwH [zag] (d:Nat) (t:TypeId) (x:Operand):opK P T s ⟨some d,.box t x,ty,pos,af,g⟩ K = zaX s.rw (s.ev x) (kk fun c=>K (zcI s d (.box t c) fun v=>.ref d v 0)):=(rfl)
def evs (s:St) (l:List (Nat × Operand)):List PV:=l.map fun x=>s.ev x.2
theorem zwI:evs s [] = []:=(rfl)
theorem zsv (n:Nat) (x:Operand) (l:List (Nat × Operand)):evs s ((n,x) :: l) = s.ev x :: evs s l:=(rfl)
def zwJ (T:Tab) (s:St) (d:Nat) (kd:TK) (z n:Nat) (parts:List (Nat × Operand)) (K:St→Prop):Prop :=
 0 < z∧match kd with
 | .sli e=>0 < (T e).size∧n = parts.length∧zmJ 0 parts = true∧n * (T e).size ≤ 16777216 ∧
  zkB s.rw (T e).size (evs s parts) fun c f=>d ∉ f∧K (((s.freeze f).row d ⟨(s.rw d).ver + 1,.sli e (T e).size false c⟩).put (some d) (.own d ((s.rw d).ver + 1)))
 | _=>False
theorem zft [zag] (d:Nat) (t:TypeId) (n:Nat) (parts:List (Nat × Operand)):opK P T s ⟨some d,.buildSlice t n ⟨parts⟩,ty,pos,af,g⟩ K = zwJ T s d (T t).k (T t).size n parts (kk K):=(rfl)
def lit (c:List PV):List PV:=c
def zEE (a:List Int) (c:List PV):List PV:=iL a ++ c
def zEF (a:List ByteArray) (c:List PV):List PV:=sL a ++ c
def zEG (a:List Bool) (c:List PV):List PV:=bL a ++ c
def zEH (a:List (List Int)) (c:List PV):List PV:=iLL a ++ c
theorem zmp:lit [] = []:=(rfl)
theorem zmq (n:Int) (l:List PV):lit (.v (.int .i64 n) :: l) = zEE [n] l:=(rfl)
theorem zmr (n:ByteArray) (l:List PV):lit (.v (.string n) :: l) = zEF [n] l:=(rfl)
theorem zid (n:Bool) (l:List PV):lit (.v (.bool n) :: l) = zEG [n] l:=(rfl)
theorem zsw (n:List Int) (l:List PV):lit (.sl false 1 (iL n) :: l) = zEH [n] l:=(rfl)
theorem zie (a:List Int):zEE a [] = iL a:=List.append_nil _
theorem zif (a:List ByteArray):zEF a [] = sL a:=List.append_nil _
theorem zig (a:List Bool):zEG a [] = bL a:=List.append_nil _
theorem zih (a:List (List Int)):zEH a [] = iLL a:=List.append_nil _
theorem zf9 (a:List Int) (n:Int) (l:List PV):zEE a (.v (.int .i64 n) :: l) = zEE (a ++ [n]) l:=by simp [zEE,iL]
theorem zga (a:List ByteArray) (n:ByteArray) (l:List PV):zEF a (.v (.string n) :: l) = zEF (a ++ [n]) l:=by simp [zEF,sL]
theorem zgb (a:List Bool) (n:Bool) (l:List PV):zEG a (.v (.bool n) :: l) = zEG (a ++ [n]) l:=by simp [zEG,bL]
theorem zgc (a:List (List Int)) (n:List Int) (l:List PV):zEH a (.sl false 1 (iL n) :: l) = zEH (a ++ [n]) l:=by simp [zEH,iLL]
theorem zk3 (d e n:Nat) (parts:List (Nat × Operand)) (h2:(T e).size = 1) :
 zwJ T s d (.sli e) 1 n parts K = (n = parts.length∧zmJ 0 parts = true∧n ≤ 16777216∧zkB s.rw 1 (evs s parts) (kk fun c f=>d ∉ f∧K (((s.freeze f).row d ⟨(s.rw d).ver + 1,.sli e 1 false (lit c)⟩).put (some d) (.own d ((s.rw d).ver + 1))))):=by
 unfold zwJ kk
 simp only [h2,Nat.one_pos,true_and,Nat.mul_one]
 rfl
theorem zn1 (i:Nat):zmJ i [] = true:=(rfl)
theorem zk4 (i j:Nat) (x:Operand) (l:List (Nat × Operand)):zmJ i ((j,x) :: l) = (j == i && zmJ (i + 1) l):=(rfl)
theorem zn2 (rw:Nat→Row) (es:Nat) (Kp:List PV→List Nat→Prop):zkB rw es [] (kk Kp) = Kp [] []:=(rfl)
theorem zk5 (rw:Nat→Row) (es:Nat) (p:PV) (ps:List PV) (Kp:List PV→List Nat→Prop):zkB rw es (p :: ps) (kk Kp) = zcH rw p (kk fun c f=>c.length = es∧zkB rw es ps (kk fun cs fs=>Kp (c ++ cs) (f ++ fs))):=(rfl)
theorem zn3 [zag] (t:TypeId) (ad x:Operand):opK P T s ⟨none,.store t ad x,ty,pos,af,g⟩ K = zpA T s t (s.ev ad) (s.ev x) (kk K):=by
 show ((none:Option Nat) = none∧zpA T s t (s.ev ad) (s.ev x) K) = _
 simp [kk]
def zCP (T:Tab) (t:TypeId) (l c:PV) (K:TypeId→List PV→Prop):Prop :=
 match (T t).k,l,c with
 | .sli e,.v (.int _ nl),.v (.int _ nc)=>0 < (T t).size∧(T e).size = 1∧(match (T e).zero with
  | [z]=>0 ≤ nl∧nl ≤ nc∧((T e).bytes:Int) * nc ≤ 281474976710656∧nc ≤ 9223372036854775807∧K e (List.replicate nl.toNat (.v z))
  | _=>False)
 | _,_,_=>False
theorem zsx [zag] (d:Nat) (t:TypeId) (l c:Operand):opK P T s ⟨some d,.makeSlice t l c,ty,pos,af,g⟩ K = zCP T t (s.ev l) (s.ev c) (kk fun e cs=>K (zcI s d (.sli e 1 false cs) fun v=>.own d v)):=by
 unfold zCP kk
 simp only [opK]
 generalize (T t).k = a
 generalize s.ev l = b
 generalize s.ev c = e
 cases a <;> first | rfl | skip
 cases b <;> first | rfl | skip
 rename_i v
 cases v <;> first | rfl | skip
 cases e <;> first | rfl | skip
 rename_i v
 cases v <;> rfl
def zCQ (T:Tab) (kd:TK) (z:Nat) (l c:PV) (K:TypeId→List PV→Prop):Prop :=
 match kd,l,c with
 | .sli e,.v (.int _ nl),.v (.int _ nc)=>0 < z∧(T e).size = 1∧(match (T e).zero with
  | [z]=>0 ≤ nl∧nl ≤ nc∧((T e).bytes:Int) * nc ≤ 281474976710656∧nc ≤ 9223372036854775807∧K e (List.replicate nl.toNat (.v z))
  | _=>False)
 | _,_,_=>False
theorem zwK (t:TypeId) (l c:PV) (Kc:TypeId→List PV→Prop):zCP T t l c Kc = zCQ T (T t).k (T t).size l c Kc:=(rfl)
def zCR (zs:List Value) (K:Value→Prop):Prop:=match zs with | [z]=>K z | _=>False
theorem zn4 (z:Value) (Kz:Value→Prop):zCR [z] Kz = Kz z:=(rfl)
theorem zn5 {e:TypeId} {k1 k2:IntKind} {nl nc:Int} {Kc:TypeId→List PV→Prop} (h2:(T e).size = 1) :
 zCQ T (.sli e) 1 (.v (.int k1 nl)) (.v (.int k2 nc)) Kc = zCR (T e).zero (kk fun z=>0 ≤ nl∧nl ≤ nc∧((T e).bytes:Int) * nc ≤ 281474976710656∧nc ≤ 9223372036854775807∧Kc e (List.replicate nl.toNat (.v z))):=by
 unfold zCQ zCR kk
 simp only [h2,Nat.one_pos,true_and]
def zEa (T:Tab) (s:St) (t:TypeId) (x:PV) (lo hi mx:Option Operand) (K:List Nat→PV→Prop):Prop :=
 match x with
 | .own k ver=>(match (s.rw k).kind with
  | .sli _ _ false _=>zbs T (s.freeze [k]).rw s.ev t (.own k ver) lo hi mx (K [k])
  | _=>zbs T s.rw s.ev t (.own k ver) lo hi mx (K []))
 | x=>zbs T s.rw s.ev t x lo hi mx (K [])
theorem zn6 [zag] (t:TypeId) (x:Operand) (lo hi mx:Option Operand):opK P T s ⟨dst,.slice t x lo hi mx,ty,pos,af,g⟩ K = zEa T s t (s.ev x) lo hi mx (kk fun fz p=>K ((s.freeze fz).put dst p)):=by
 have e:s.freeze [] = s:=St.freeze_nil s
 have h:∀ q,s.ev x = q→(match q with
  | .own k _=>(match (s.rw k).kind with
   | .sli _ _ false _=>zh1 T (s.freeze [k]).rw s.ev (.slice t x lo hi mx) fun p=>K ((s.freeze [k]).put dst p)
   | _=>zh1 T s.rw s.ev (.slice t x lo hi mx) fun p=>K (s.put dst p))
  | _=>zh1 T s.rw s.ev (.slice t x lo hi mx) fun p=>K (s.put dst p)) = zEa T s t q lo hi mx fun fz p=>K ((s.freeze fz).put dst p):=by
  intro q hq
  unfold zEa
  cases q <;> simp only [zh1,hq,e]
 exact h _ rfl
end
def zEb (s:St) (l:List (Nat × Operand)):List (Nat × PV):=l.map fun x=>(x.1,s.ev x.2)
theorem zsy:zEb s [] = []:=(rfl)
theorem zn7 (n:Nat) (x:Operand) (l:List (Nat × Operand)):zEb s ((n,x) :: l) = (n,s.ev x) :: zEb s l:=(rfl)
def zgd (T:Tab):List (Nat × TypeId)→Prop | []=>True | x :: fs=>0 < (T x.2).size∧zgd T fs
theorem zk6:zgd T [] = True:=(rfl)
theorem ziM (o:Nat) (t:TypeId) (fs:List (Nat × TypeId)):zgd T ((o,t) :: fs) = (0 < (T t).size∧zgd T fs):=(rfl)
theorem zwL:∀ fs:List (Nat × TypeId),(∀ x ∈ fs,0 < (T x.2).size) = zgd T fs:=by
 intro fs
 induction fs with
 | nil=>simp [zgd]
 | cons x fs ih=>rw [zgd,← ih];simp
def zEI (T:Tab) (rw:Nat→Row) (kd:TK) (z:Nat) (zs:List Value) (pp:List (Nat × PV)) (K:PV→Prop):Prop :=
 0 < z∧match kd with
 | .struct fs=>zgd T fs∧zcY T rw fs pp (zs.map PV.v) fun c=>K (.ag c)
 | _=>False
theorem zBK [zag] (t:TypeId) (parts:List (Nat × Operand)) (Kp:PV→Prop):zfO T s.rw s.ev t ⟨parts⟩ Kp = zEI T s.rw (T t).k (T t).size (T t).zero (zEb s parts) (kk Kp):=by
 unfold zfO zEI kk
 cases (T t).k <;> first | rfl | skip
 simp only [zwL]
 rfl
theorem ziN (rw:Nat→Row) (fs:List (Nat × TypeId)) (z:Nat) (zs:List Value) (pp:List (Nat × PV)) (Kp:PV→Prop) :
 zEI T rw (.struct fs) z zs pp (kk Kp) = (0 < z∧zgd T fs∧zcY T rw fs pp (zs.map PV.v) (kk fun c=>Kp (.ag c))):=(rfl)
theorem zn8 (rw:Nat→Row) (fs:List (Nat × TypeId)) (c:List PV) (Kc:List PV→Prop):zcY T rw fs [] c (kk Kc) = Kc c:=(rfl)
def zFW (T:Tab) (rw:Nat→Row) (fs:List (Nat × TypeId)) (x:Option (Nat × TypeId)) (p:PV) (rest:List (Nat × PV)) (cells:List PV) (Kc:List PV→Prop):Prop :=
 match x with
 | some (off,ft)=>zaX rw p fun c=>c.length = (T ft).size∧off + c.length ≤ cells.length∧zcY T rw fs rest (spl cells off c) Kc
 | none=>False
theorem zk7 (rw:Nat→Row) (fs:List (Nat × TypeId)) (i:Nat) (p:PV) (rest:List (Nat × PV)) (c:List PV) (Kc:List PV→Prop):zcY T rw fs ((i,p) :: rest) c (kk Kc) = zFW T rw fs fs[i]? p rest c (kk Kc):=by
 unfold zFW kk
 rw [zcY]
 cases fs[i]? <;> rfl
theorem zn9 (rw:Nat→Row) (fs:List (Nat × TypeId)) (off:Nat) (ft:TypeId) (p:PV) (rest:List (Nat × PV)) (cells:List PV) (Kc:List PV→Prop) :
 zFW T rw fs (some (off,ft)) p rest cells (kk Kc) = zaX rw p (kk fun c=>c.length = (T ft).size∧off + c.length ≤ cells.length∧zcY T rw fs rest (spl cells off c) (kk Kc)):=(rfl)
section
variable {dst:Option Nat} {ty:TypeId} {pos:String} {af:Array Edge} {g:Option (Nat × Bool)}
theorem zoa [zag] (t:TypeId) (parts:List (Nat × Operand)):opK P T s ⟨dst,.build t ⟨parts⟩,ty,pos,af,g⟩ K = zEI T s.rw (T t).k (T t).size (T t).zero (zEb s parts) (kk fun p=>K (s.put dst p)):=by
 rw [← zBK];rfl
def ncD (rw:Nat→Row) (kd:TK) (z:Nat) (x:PV) (Kb:Bool→Prop):Prop:=0 < z∧match kd with | .sli _=>slK rw x fun _ _ c=>Kb false∧(c = []→Kb true) | _=>False
theorem ziO [zag] (t t2:TypeId) (x:Operand):zdI P T s ⟨dst,.binOp .eql t x (.const (.slice none 0 0)) t2,ty,pos,af,g⟩ K = ncD s.rw (T t).k (T t).size (s.ev x) (kk fun b=>K (s.put dst (.v (.bool b)))):=(rfl)
theorem ziP [zag] (t t2:TypeId) (x:Operand):zdI P T s ⟨dst,.binOp .neq t x (.const (.slice none 0 0)) t2,ty,pos,af,g⟩ K = ncD s.rw (T t).k (T t).size (s.ev x) (kk fun b=>K (s.put dst (.v (.bool !b)))):=(rfl)
theorem zBL (rw:Nat→Row) (e z z':Nat) (fr:Bool) (c:List PV) (Kb:Bool→Prop):ncD rw (.sli e) z (.sl fr z' c) (kk Kb) = (0 < z∧Kb false∧(c = []→Kb true)):=(rfl)
def zuz (r:Row) (ver:Nat) (Kb:Bool→Prop):Prop:=r.ver = ver∧match r.kind with | .nil=>Kb false∧Kb true | .sli _ _ _ c=>Kb false∧(c = []→Kb true) | _=>False
theorem zwM (rw:Nat→Row) (e z j v:Nat) (Kb:Bool→Prop):ncD rw (.sli e) z (.own j v) (kk Kb) = (0 < z∧zuz (rw j) v (kk Kb)):=by
 unfold ncD zuz kk slK
 dsimp only
 cases (rw j).kind <;> simp
theorem zob (ver e sz:Nat) (fz:Bool) (c:List PV) (Kb:Bool→Prop):zuz ⟨ver,.sli e sz fz c⟩ ver (kk Kb) = (Kb false∧(c = []→Kb true)):=by simp [zuz,kk]
theorem zoc (ver:Nat) (Kb:Bool→Prop):zuz ⟨ver,.nil⟩ ver (kk Kb) = (Kb false∧Kb true):=by simp [zuz,kk]
theorem zsz [zag] (x:Operand):zdI P T s ⟨dst,.move x,ty,pos,af,g⟩ K = opK P T s ⟨dst,.move x,ty,pos,af,g⟩ K:=(rfl)
theorem zk8 [zag] (x:Operand):zdI P T s ⟨dst,.assign x,ty,pos,af,g⟩ K = opK P T s ⟨dst,.assign x,ty,pos,af,g⟩ K:=(rfl)
theorem zsA [zag] (c x y:Operand):zdI P T s ⟨dst,.pick c x y,ty,pos,af,g⟩ K = opK P T s ⟨dst,.pick c x y,ty,pos,af,g⟩ K:=(rfl)
theorem zBM [zag] (op:UnOp) (t:TypeId) (x:Operand):zdI P T s ⟨dst,.unOp op t x,ty,pos,af,g⟩ K = opK P T s ⟨dst,.unOp op t x,ty,pos,af,g⟩ K:=(rfl)
theorem ziQ [zag] (a b:TypeId) (x:Operand):zdI P T s ⟨dst,.convert a b x,ty,pos,af,g⟩ K = opK P T s ⟨dst,.convert a b x,ty,pos,af,g⟩ K:=(rfl)
theorem zsB [zag] (t:TypeId) (x:Operand):zdI P T s ⟨dst,.load t x,ty,pos,af,g⟩ K = opK P T s ⟨dst,.load t x,ty,pos,af,g⟩ K:=(rfl)
theorem zge [zag] (t:TypeId) (x:Operand) (f:Nat):zdI P T s ⟨dst,.fieldAddr t x f,ty,pos,af,g⟩ K = opK P T s ⟨dst,.fieldAddr t x f,ty,pos,af,g⟩ K:=(rfl)
theorem zod [zag] (t:TypeId) (x:Operand) (f:Nat):zdI P T s ⟨dst,.field t x f,ty,pos,af,g⟩ K = opK P T s ⟨dst,.field t x f,ty,pos,af,g⟩ K:=(rfl)
theorem zgf [zag] (t:TypeId) (x i:Operand):zdI P T s ⟨dst,.indexAddr t x i,ty,pos,af,g⟩ K = opK P T s ⟨dst,.indexAddr t x i,ty,pos,af,g⟩ K:=(rfl)
theorem zoe [zag] (t:TypeId) (x i:Operand):zdI P T s ⟨dst,.index t x i,ty,pos,af,g⟩ K = opK P T s ⟨dst,.index t x i,ty,pos,af,g⟩ K:=(rfl)
theorem ziR [zag] (x:Operand) (i:Nat):zdI P T s ⟨dst,.extract x i,ty,pos,af,g⟩ K = opK P T s ⟨dst,.extract x i,ty,pos,af,g⟩ K:=(rfl)
theorem zhu [zag] (x:Operand):zdI P T s ⟨dst,.nilCheck x,ty,pos,af,g⟩ K = opK P T s ⟨dst,.nilCheck x,ty,pos,af,g⟩ K:=(rfl)
theorem zhv [zag] (f:Fn) (fi caps:Array Operand):zdI P T s ⟨dst,.makeFunc f fi caps,ty,pos,af,g⟩ K = opK P T s ⟨dst,.makeFunc f fi caps,ty,pos,af,g⟩ K:=(rfl)
theorem zof [zag] (t:TypeId):zdI P T s ⟨dst,.alloc t,ty,pos,af,g⟩ K = opK P T s ⟨dst,.alloc t,ty,pos,af,g⟩ K:=(rfl)
theorem zwN [zag] (t:TypeId) (x:Operand):zdI P T s ⟨dst,.box t x,ty,pos,af,g⟩ K = opK P T s ⟨dst,.box t x,ty,pos,af,g⟩ K:=(rfl)
theorem zk9 [zag] (t:TypeId) (n:Nat):zdI P T s ⟨dst,.buildSlice t n ⟨[]⟩,ty,pos,af,g⟩ K = opK P T s ⟨dst,.buildSlice t n ⟨[]⟩,ty,pos,af,g⟩ K:=(rfl)
theorem zla [zag] (t:TypeId) (n:Nat) (p q:Nat × Operand) (l:List (Nat × Operand)):zdI P T s ⟨dst,.buildSlice t n ⟨p :: q :: l⟩,ty,pos,af,g⟩ K = opK P T s ⟨dst,.buildSlice t n ⟨p :: q :: l⟩,ty,pos,af,g⟩ K:=(rfl)
def zBN (T:Tab) (s:St) (d:Nat) (t:TypeId) (n i:Nat) (p:PV) (Kt:St→Prop) (A:Prop):Prop :=
 match p with
 | .own k ver=>(match (s.rw k).kind with | .tab _ _=>zjw T s d t n i k ver Kt | .sli _ _ _ _=>A ∨ zjw T s d t n i k ver Kt | _=>A)
 | _=>A
theorem zlb [zag] (d:Nat) (t:TypeId) (n i:Nat) (x:Operand):zdI P T s ⟨some d,.buildSlice t n ⟨[(i,x)]⟩,ty,pos,af,g⟩ K =
 zBN T s d t n i (s.ev x) (kk K) (kk (opK P T s ⟨some d,.buildSlice t n ⟨[(i,x)]⟩,ty,pos,af,g⟩ K)):=by
 unfold zdI zBN kk
 dsimp only
 cases s.ev x <;> rfl
theorem zBO (d:Nat) (t:TypeId) (n i:Nat) (x:Value) (A:Prop):zBN T s d t n i (.v x) (kk K) (kk A) = A:=(rfl)
theorem zwO (d:Nat) (t:TypeId) (n i:Nat) (fr:Bool) (z:Nat) (c:List PV) (A:Prop):zBN T s d t n i (.sl fr z c) (kk K) (kk A) = A:=(rfl)
theorem zwP (d:Nat) (t:TypeId) (n i:Nat) (c:List PV) (A:Prop):zBN T s d t n i (.ag c) (kk K) (kk A) = A:=(rfl)
theorem zog (d:Nat) (t:TypeId) (n i:Nat) (fr:Bool) (c:List PV) (o:Nat) (A:Prop):zBN T s d t n i (.eref fr c o) (kk K) (kk A) = A:=(rfl)
theorem zsC (d:Nat) (t:TypeId) (n i:Nat) (j v o:Nat) (A:Prop):zBN T s d t n i (.ref j v o) (kk K) (kk A) = A:=(rfl)
def zsD (T:Tab) (r:Row) (s:St) (d:Nat) (t:TypeId) (n i k ver:Nat) (Kt:St→Prop) (A:Prop):Prop:=match r.kind with | .tab _ _=>zjw T s d t n i k ver Kt | .sli _ _ _ _=>A ∨ zjw T s d t n i k ver Kt | _=>A
theorem zsE (d:Nat) (t:TypeId) (n i k ver:Nat) (A:Prop):zBN T s d t n i (.own k ver) (kk K) (kk A) = zsD T (s.rw k) s d t n i k ver (kk K) (kk A):=(rfl)
theorem zlc (d:Nat) (t:TypeId) (n i k ver v:Nat) (A:Prop):zsD T ⟨v,.nil⟩ s d t n i k ver (kk K) (kk A) = A:=(rfl)
def zgT (T:Tab) (s:St) (d:Nat) (kd:TK) (z n i k ver:Nat) (r:Row) (K:St→Prop):Prop:=0 < z∧n = 1∧i = 0∧r.ver = ver∧r.kind.slice = true∧d ≠ k∧(match kd with
 | .sli e=>(T e).size = 1∧K ((s.row d ⟨(s.rw d).ver + 1,.tab e [.own k ver]⟩).put (some d) (.own d ((s.rw d).ver + 1)))
 | _=>False)
def orB (A B:Prop):Prop:=A ∨ B
theorem zFX {A B:Prop} {u:Dm A} {v:Dm B} (h:A):orB (kk A u) (kk B v):=.inl h
theorem zFY {A B:Prop} {u:Dm A} {v:Dm B} (h:B):orB (kk A u) (kk B v):=.inr h
theorem zld (d:Nat) (t:TypeId) (n i k ver v e z:Nat) (fz:Bool) (c:List PV) (A:Prop):zsD T ⟨v,.sli e z fz c⟩ s d t n i k ver (kk K) (kk A) = orB (kk A) (kk (zgT T s d (T t).k (T t).size n i k ver (s.rw k) K)):=(rfl)
theorem ziS (d e k ver e' z:Nat) (fz:Bool) (c:List PV) (h:(T e).size = 1):zgT T s d (.sli e) 1 1 0 k ver ⟨ver,.sli e' z fz c⟩ K = (d ≠ k∧K ((s.row d ⟨(s.rw d).ver + 1,.tab e [.own k ver]⟩).put (some d) (.own d ((s.rw d).ver + 1)))):=by
 simp only [zgT,h,RK.slice,Nat.one_pos,true_and]
theorem zle (d:Nat) (t:TypeId) (n i k ver v e:Nat) (c:List PV) (A:Prop):zsD T ⟨v,.tab e c⟩ s d t n i k ver (kk K) (kk A) = zgT T s d (T t).k (T t).size n i k ver (s.rw k) K:=(rfl)
theorem ziT (d e k ver e':Nat) (c:List PV) (h:(T e).size = 1):zgT T s d (.sli e) 1 1 0 k ver ⟨ver,.tab e' c⟩ K = (d ≠ k∧K ((s.row d ⟨(s.rw d).ver + 1,.tab e [.own k ver]⟩).put (some d) (.own d ((s.rw d).ver + 1)))):=by
 simp only [zgT,h,RK.slice,Nat.one_pos,true_and]
def zBP (T:Tab) (s:St) (d:Nat) (t t2:TypeId) (x:PV) (y:PV) (Kt:St→Prop) (A:Prop):Prop :=
 match x with
 | .own k ver=>(match (s.rw k).kind with | .tab e c=>zFN T s d t t2 k ver e c y Kt | _=>A)
 | _=>A
def zEc (T:Tab) (s:St) (d:Nat) (t t2:TypeId) (x:PV) (y:PV) (Kt:St→Prop) (A:Prop):Prop :=
 match y with
 | .v (.string b)=>zq3 T s d t t2 x b Kt
 | _=>zBP T s d t t2 x y Kt A
theorem zlf [zag] (d:Nat) (x y:Operand) (t t2:TypeId):zdI P T s ⟨some d,.call ⟨.builtin .append,⟨[x,y]⟩,⟨[t,t2]⟩⟩,ty,pos,af,g⟩ K =
 zEc T s d t t2 (s.ev x) (s.ev y) (kk K) (kk (opK P T s ⟨some d,.call ⟨.builtin .append,⟨[x,y]⟩,⟨[t,t2]⟩⟩,ty,pos,af,g⟩ K)):=by
 unfold zdI zEc zBP kk
 dsimp only
 cases s.ev y with
 | v z=>cases z <;> first | rfl | (cases s.ev x <;> rfl)
 | _=>cases s.ev x <;> rfl
theorem zsF (d:Nat) (t t2:TypeId) (x:PV) (k ver:Nat) (A:Prop):zEc T s d t t2 x (.own k ver) (kk K) (kk A) = zBP T s d t t2 x (.own k ver) (kk K) (kk A):=(rfl)
theorem zwQ (d:Nat) (t t2:TypeId) (x:PV) (fr:Bool) (z:Nat) (c:List PV) (A:Prop):zEc T s d t t2 x (.sl fr z c) (kk K) (kk A) = zBP T s d t t2 x (.sl fr z c) (kk K) (kk A):=(rfl)
theorem zlg (d:Nat) (t t2:TypeId) (x:PV) (a:Option Addr) (n c:Nat) (A:Prop):zEc T s d t t2 x (.v (.slice a n c)) (kk K) (kk A) = zBP T s d t t2 x (.v (.slice a n c)) (kk K) (kk A):=(rfl)
def zwR (T:Tab) (r:Row) (s:St) (d:Nat) (kd:TK) (z:Nat) (kd2:TK) (z2 k ver:Nat) (b:ByteArray) (K:St→Prop):Prop :=
 0 < z∧0 < z2∧kd2 = .str∧match kd with
 | .sli e=>(T e).size = 1∧0 < (T e).bytes∧(r.ver = ver∧(match r.kind with
  | .nil=>b.size * (T e).bytes ≤ 140737488355328∧K (zcG s d k (.sli e (T e).size false (ztW b)))
  | .sli e' sz' false c=>e' = e∧sz' = (T e).size∧(c.length + b.size) * (T e).bytes ≤ 140737488355328∧K (zcG s d k (.sli e (T e).size false (c ++ ztW b)))
  | _=>False))
 | _=>False
theorem zsG (d:Nat) (t t2:TypeId) (k ver:Nat) (b:ByteArray) (A:Prop):zEc T s d t t2 (.own k ver) (.v (.string b)) (kk K) (kk A) = zwR T (s.rw k) s d (T t).k (T t).size (T t2).k (T t2).size k ver b (kk K):=(rfl)
theorem zoh (d k ver e:Nat) (c:List PV) (b:ByteArray) (h:(T e).size = 1) (h2:(T e).bytes = 1):zwR T ⟨ver,.sli e 1 false c⟩ s d (.sli e) 1 .str 1 k ver b (kk K) =
 (c.length + b.size ≤ 140737488355328∧K (zcG s d k (.sli e 1 false (c ++ ztW b)))):=by
 simp only [zwR,h,h2,Nat.one_pos,true_and,kk,Nat.mul_one]
theorem zoi (d k ver e:Nat) (b:ByteArray) (h:(T e).size = 1) (h2:(T e).bytes = 1):zwR T ⟨ver,.nil⟩ s d (.sli e) 1 .str 1 k ver b (kk K) =
 (b.size ≤ 140737488355328∧K (zcG s d k (.sli e 1 false (ztW b)))):=by
 simp only [zwR,h,h2,Nat.one_pos,true_and,kk,Nat.mul_one]
theorem zBQ (d:Nat) (t t2:TypeId) (x:Value) (y:PV) (A:Prop):zBP T s d t t2 (.v x) y (kk K) (kk A) = A:=(rfl)
theorem zwS (d:Nat) (t t2:TypeId) (fr:Bool) (z:Nat) (c:List PV) (y:PV) (A:Prop):zBP T s d t t2 (.sl fr z c) y (kk K) (kk A) = A:=(rfl)
def zms (T:Tab) (r:Row) (s:St) (d:Nat) (t t2:TypeId) (k ver:Nat) (y:PV) (Kt:St→Prop) (A:Prop):Prop:=match r.kind with | .tab e c=>zFN T s d t t2 k ver e c y Kt | _=>A
theorem zsH (d:Nat) (t t2:TypeId) (k ver:Nat) (y:PV) (A:Prop):zBP T s d t t2 (.own k ver) y (kk K) (kk A) = zms T (s.rw k) s d t t2 k ver y (kk K) (kk A):=(rfl)
theorem ziU (d:Nat) (t t2:TypeId) (k ver v e z:Nat) (fz:Bool) (c:List PV) (y:PV) (A:Prop):zms T ⟨v,.sli e z fz c⟩ s d t t2 k ver y (kk K) (kk A) = A:=(rfl)
theorem ziV (d:Nat) (t t2:TypeId) (k ver v:Nat) (y:PV) (A:Prop):zms T ⟨v,.nil⟩ s d t t2 k ver y (kk K) (kk A) = A:=(rfl)
def zCS (T:Tab) (s:St) (d:Nat) (kd:TK) (z k ver e:Nat) (r:Row) (c:List PV) (y:PV) (K:St→Prop):Prop :=
 0 < z∧kd = .sli e∧(T e).size = 1∧0 < (T e).bytes∧r.ver = ver∧zuW s.rw y fun news=>(c.length + news.length) * (T e).bytes ≤ 140737488355328∧K (zcG s d k (.tab e (c ++ news)))
theorem ziW (d:Nat) (t:TypeId) (k ver v e:Nat) (c:List PV) (y:PV) (A:Prop):zms T ⟨v,.tab e c⟩ s d t t k ver y (kk K) (kk A) = zCS T s d (T t).k (T t).size k ver e (s.rw k) c y (kk K):=propext ⟨fun h=>h.2,fun h=>⟨rfl,h⟩⟩
theorem zoj (d k ver e e':Nat) (c c':List PV) (y:PV) (h:(T e).size = 1) (h2:0 < (T e).bytes):zCS T s d (.sli e) 1 k ver e ⟨ver,.tab e' c'⟩ c y (kk K) =
 zuW s.rw y (kk fun news=>(c.length + news.length) * (T e).bytes ≤ 140737488355328∧K (zcG s d k (.tab e (c ++ news)))):=by
 simp only [zCS,h,h2,Nat.one_pos,true_and,kk]
def zok (r:Row) (rw:Nat→Row) (v:Nat) (Kc:List PV→Prop):Prop:=r.ver = v∧(match r.kind with
 | .sli _ sz _ c=>sz = 1∧(∀ p ∈ c,isV p = true)∧Kc c
 | .tab _ c=>(∀ p ∈ c,zhM rw p)∧Kc c
 | _=>False)
theorem zol (rw:Nat→Row) (j v:Nat) (Kc:List PV→Prop):zuW rw (.own j v) (kk Kc) = zok (rw j) rw v (kk Kc):=(rfl)
theorem zom [zag] (rw:Nat→Row) (v e:Nat) (fz:Bool) (xs:List Int) (Kc:List PV→Prop):zok ⟨v,.sli e 1 fz (iL xs)⟩ rw v (kk Kc) = Kc (iL xs):=by
 have:=zwc xs
 simp only [zok,this,true_and,kk]
theorem zlh (rw:Nat→Row) (v e k ver:Nat) (Kc:List PV→Prop):zok ⟨v,.tab e [.own k ver]⟩ rw v (kk Kc) = (zhM rw (.own k ver)∧Kc [.own k ver]):=by
 simp only [zok,true_and,kk,List.mem_singleton,forall_eq]
theorem zon [zag] (t:TypeId) (parts:Array (Nat × Operand)):zdI P T s ⟨dst,.build t parts,ty,pos,af,g⟩ K = opK P T s ⟨dst,.build t parts,ty,pos,af,g⟩ K:=(rfl)
theorem zoo [zag] (t:TypeId) (ad x:Operand):zdI P T s ⟨dst,.store t ad x,ty,pos,af,g⟩ K = opK P T s ⟨dst,.store t ad x,ty,pos,af,g⟩ K:=(rfl)
theorem zsI [zag] (t:TypeId) (l c:Operand):zdI P T s ⟨dst,.makeSlice t l c,ty,pos,af,g⟩ K = opK P T s ⟨dst,.makeSlice t l c,ty,pos,af,g⟩ K:=(rfl)
theorem zop [zag] (t:TypeId) (x:Operand) (lo hi mx:Option Operand):zdI P T s ⟨dst,.slice t x lo hi mx,ty,pos,af,g⟩ K = opK P T s ⟨dst,.slice t x lo hi mx,ty,pos,af,g⟩ K:=(rfl)
theorem ziX [zag] (op:BinOp) (t t2:TypeId) (x:Operand) (y:Nat):zdI P T s ⟨dst,.binOp op t x (.tmp y) t2,ty,pos,af,g⟩ K = opK P T s ⟨dst,.binOp op t x (.tmp y) t2,ty,pos,af,g⟩ K:=by cases op <;> rfl
theorem ziY [zag] (op:BinOp) (t t2:TypeId) (x:Operand) (k:IntKind) (n:Int):zdI P T s ⟨dst,.binOp op t x (.const (.int k n)) t2,ty,pos,af,g⟩ K = opK P T s ⟨dst,.binOp op t x (.const (.int k n)) t2,ty,pos,af,g⟩ K:=by cases op <;> rfl
theorem zhw [zag] (op:BinOp) (t t2:TypeId) (x:Operand) (b:Bool):zdI P T s ⟨dst,.binOp op t x (.const (.bool b)) t2,ty,pos,af,g⟩ K = opK P T s ⟨dst,.binOp op t x (.const (.bool b)) t2,ty,pos,af,g⟩ K:=by cases op <;> rfl
theorem zfu [zag] (op:BinOp) (t t2:TypeId) (x:Operand) (b:ByteArray):zdI P T s ⟨dst,.binOp op t x (.const (.string b)) t2,ty,pos,af,g⟩ K = opK P T s ⟨dst,.binOp op t x (.const (.string b)) t2,ty,pos,af,g⟩ K:=by cases op <;> rfl
end
section
variable {dst:Option Nat} {ty:TypeId} {pos:String} {af:Array Edge} {g:Option (Nat × Bool)} {Ke:Ent→St→Prop}
theorem zwT [zag] (x:Operand):dK P T s ⟨dst,.move x,ty,pos,af,g⟩ (kk Ke) = evK (s.ev x) (kk fun p=>Ke ⟨[],.ids []⟩ (s.put dst p)):=(rfl)
theorem zoq [zag] (x:Operand):dK P T s ⟨dst,.assign x,ty,pos,af,g⟩ (kk Ke) = evK (s.ev x) (kk fun p=>Ke ⟨[],.ids []⟩ (s.put dst p)):=(rfl)
theorem zwU [zag] (c x y:Operand):dK P T s ⟨dst,.pick c x y,ty,pos,af,g⟩ (kk Ke) = zAa (s.ev c) (kk (evK (s.ev x) (kk fun p=>Ke ⟨[],.ids []⟩ (s.put dst p)))) (kk (evK (s.ev y) (kk fun p=>Ke ⟨[],.ids []⟩ (s.put dst p)))):=(rfl)
theorem zBR [zag] (op:BinOp) (t t2:TypeId) (x y:Operand):dK P T s ⟨dst,.binOp op t x y t2,ty,pos,af,g⟩ (kk Ke) = zcM T op t (s.ev x) (s.ev y) (kk fun p=>Ke ⟨[],.ids []⟩ (s.put dst p)):=(rfl)
theorem zEJ [zag] (op:UnOp) (t:TypeId) (x:Operand):dK P T s ⟨dst,.unOp op t x,ty,pos,af,g⟩ (kk Ke) = unK op (s.ev x) (kk fun p=>Ke ⟨[],.ids []⟩ (s.put dst p)):=(rfl)
theorem zli [zag] (a b:TypeId) (x:Operand):dK P T s ⟨dst,.convert a b x,ty,pos,af,g⟩ (kk Ke) = zcW [s.ev x] [] (kk fun l=>zgw T s.rw a b (s.ev x) (kk fun p=>Ke ⟨l,.ids []⟩ (s.put dst p))):=(rfl)
theorem zwV [zag] (t:TypeId) (x:Operand):dK P T s ⟨dst,.load t x,ty,pos,af,g⟩ (kk Ke) = zcW [s.ev x] [] (kk fun l=>zqn s.rw (s.ev x) (kk fun m c off=>ldK T t m c off (kk fun p=>Ke ⟨l,.ids []⟩ (s.put dst p)))):=(rfl)
theorem zhx [zag] (t:TypeId) (x:Operand) (f:Nat):dK P T s ⟨dst,.fieldAddr t x f,ty,pos,af,g⟩ (kk Ke) =
 zcW [s.ev x] [] (kk fun l=>zdu T t f (kk fun o _=>zjI (s.ev x) = true∧zdb s.rw (s.ev x) (kk (evK (zdK (s.ev x) o) (kk fun p=>Ke ⟨l,.ids []⟩ (s.put dst p)))))):=(rfl)
theorem zsJ [zag] (t:TypeId) (x:Operand) (f:Nat):dK P T s ⟨dst,.field t x f,ty,pos,af,g⟩ (kk Ke) =
 agK (s.ev x) (kk fun c=>zdu T t f (kk fun o ft=>ldK T ft .asis c o (kk fun p=>Ke ⟨[],.ids []⟩ (s.put dst p)))):=ziK (P:=P) (T:=T) (s:=s) (K:=Ke ⟨[],.ids []⟩) (dst:=dst) (ty:=ty) (pos:=pos) (af:=af) (g:=g) t x f
theorem zhy [zag] (t:TypeId) (x y:Operand):dK P T s ⟨dst,.indexAddr t x y,ty,pos,af,g⟩ (kk Ke) = zcW [s.ev x,s.ev y] [] (kk fun l=>zbk T s.rw t (s.ev x) (s.ev y) (kk fun p=>Ke ⟨l,.ids []⟩ (s.put dst p))):=(rfl)
theorem zsK [zag] (t:TypeId) (x y:Operand):dK P T s ⟨dst,.index t x y,ty,pos,af,g⟩ (kk Ke) = zsr T t (s.ev x) (s.ev y) (kk fun p=>Ke ⟨[],.ids []⟩ (s.put dst p)):=(rfl)
theorem zlj [zag] (x:Operand) (n:Nat):dK P T s ⟨dst,.extract x n,ty,pos,af,g⟩ (kk Ke) = zFV (s.ev x) (kk fun ps=>n < ps.length∧evK (ps.getD n .junk) (kk fun p=>Ke ⟨[],.ids []⟩ (s.put dst p))):=(rfl)
theorem ziZ [zag] (f:FuncId) (caps:Array Operand):dK P T s ⟨dst,.makeFunc (.func f) #[] caps,ty,pos,af,g⟩ (kk Ke) = Ke ⟨[],.ids []⟩ (s.put dst (.clo f (caps.toList.map s.ev))):=by
 show (#[] = (#[]:Array Operand)∧Ke ⟨[],.ids []⟩ (s.put dst (.clo f (caps.toList.map s.ev)))) = _
 simp
theorem zi0 [zag] (x:Operand):dK P T s ⟨dst,.nilCheck x,ty,pos,af,g⟩ (kk Ke) = zcW [s.ev x] [] (kk fun l=>zdb s.rw (s.ev x) (kk (evK (s.ev x) (kk fun p=>Ke ⟨l,.ids []⟩ (s.put dst p))))):=(rfl)
theorem zBS [zag] (x:Operand) (t:TypeId):dK P T s ⟨dst,.call ⟨.builtin .len,#[x],#[t]⟩,ty,pos,af,g⟩ (kk Ke) = zcW [s.ev x] [] (kk fun l=>zyp T s.rw t (s.ev x) (kk fun p=>Ke ⟨l,.ids []⟩ (s.put dst p))):=(rfl)
theorem zBT [zag] (x y:Operand) (ts:Array TypeId):dK P T s ⟨dst,.call ⟨.builtin .max,#[x,y],ts⟩,ty,pos,af,g⟩ (kk Ke) = zcW [s.ev x,s.ev y] [] (kk fun l=>zcv true (s.ev x) (s.ev y) (kk fun p=>Ke ⟨l,.ids []⟩ (s.put dst p))):=(rfl)
theorem zBU [zag] (x y:Operand) (ts:Array TypeId):dK P T s ⟨dst,.call ⟨.builtin .min,#[x,y],ts⟩,ty,pos,af,g⟩ (kk Ke) = zcW [s.ev x,s.ev y] [] (kk fun l=>zcv false (s.ev x) (s.ev y) (kk fun p=>Ke ⟨l,.ids []⟩ (s.put dst p))):=(rfl)
theorem zor [zag] (t:TypeId) (x:Operand) (mx:Option Operand):dK P T s ⟨dst,.slice t x none none mx,ty,pos,af,g⟩ (kk Ke) = zcW (s.ev x :: (mx.toList).map s.ev) [] (kk fun l=>zbs T s.rw s.ev t (s.ev x) none none mx (kk fun p=>Ke ⟨l,.ids []⟩ (s.put dst p))):=by
 cases mx <;> rfl
theorem zos [zag] (t:TypeId) (x lo:Operand):dK P T s ⟨dst,.slice t x (some lo) none none,ty,pos,af,g⟩ (kk Ke) = zcW [s.ev x,s.ev lo] [] (kk fun l=>zbs T s.rw s.ev t (s.ev x) (some lo) none none (kk fun p=>Ke ⟨l,.ids []⟩ (s.put dst p))):=(rfl)
def zot (T:Tab) (s:St) (dst:Option Nat) (t:TypeId) (x hi:Operand) (r:Row) (k ver:Nat) (py:PV) (Ke:Ent→St→Prop):Prop :=
 match r.kind with
 | .sli _ _ false _=>zHV T s dst t r k ver py Ke
 | _=>zcW [.own k ver,py] [] (kk fun l=>zbs T s.rw s.ev t (.own k ver) none (some hi) none (kk fun p=>Ke ⟨l,.ids []⟩ (s.put dst p)))
def zEK (T:Tab) (s:St) (dst:Option Nat) (t:TypeId) (x hi:Operand) (px py:PV) (Ke:Ent→St→Prop):Prop :=
 match px with
 | .own k ver=>zot T s dst t x hi (s.rw k) k ver py Ke
 | _=>zcW [px,py] [] (kk fun l=>zbs T s.rw s.ev t px none (some hi) none (kk fun p=>Ke ⟨l,.ids []⟩ (s.put dst p)))
theorem zsL (t:TypeId) (x hi:Operand) (k ver:Nat) (py:PV):zEK T s dst t x hi (.own k ver) py (kk Ke) = zot T s dst t x hi (s.rw k) k ver py (kk Ke):=(rfl)
theorem zwW (t:TypeId) (x hi:Operand) (fr:Bool) (z:Nat) (c:List PV) (py:PV):zEK T s dst t x hi (.sl fr z c) py (kk Ke) = zcW [.sl fr z c,py] [] (kk fun l=>zbs T s.rw s.ev t (.sl fr z c) none (some hi) none (kk fun p=>Ke ⟨l,.ids []⟩ (s.put dst p))):=(rfl)
theorem zBV (t:TypeId) (x hi:Operand) (v:Value) (py:PV):zEK T s dst t x hi (.v v) py (kk Ke) = zcW [.v v,py] [] (kk fun l=>zbs T s.rw s.ev t (.v v) none (some hi) none (kk fun p=>Ke ⟨l,.ids []⟩ (s.put dst p))):=(rfl)
theorem zou (t:TypeId) (x hi:Operand) (v e z:Nat) (c:List PV) (k ver:Nat) (py:PV):zot T s dst t x hi ⟨v,.sli e z true c⟩ k ver py (kk Ke) = zcW [.own k ver,py] [] (kk fun l=>zbs T s.rw s.ev t (.own k ver) none (some hi) none (kk fun p=>Ke ⟨l,.ids []⟩ (s.put dst p))):=(rfl)
def zFZ (T:Tab) (t e:TypeId):Prop:=0 < (T t).size∧(T t).k = .sli e∧0 < (T e).size∧(T e).size = 1
theorem zi1 (t:TypeId) (x hi:Operand) (v e:Nat) (c:List PV) (k ver d:Nat) (kd:IntKind) (m:Int):zot T s (some d) t x hi ⟨v,.sli e 1 false c⟩ k ver (.v (.int kd m)) (kk Ke) =
 (v = ver∧zFZ T t e∧0 ≤ m∧m ≤ (c.length:Int)∧Ke ⟨[],.ids [k]⟩ ((s.row k ⟨ver + 1,.sli e 1 false (c.take m.toNat)⟩).put (some d) (.own k (ver + 1)))):=by
 refine propext ⟨fun h=>?_,fun ⟨h1,⟨h2,h3,h4,h5⟩,h6,h7,h8⟩=>⟨d,e,c,kd,m,rfl,by rw [h1],h2,h3,h4,h5,rfl,h6,h7,h8⟩⟩
 obtain ⟨d',e',c',kd',m',g1,g2,g3,g4,g5,g6,g7,g8,g9,g10⟩:=h
 cases g1;cases g2;cases g7
 exact ⟨rfl,⟨g3,g4,g5,g6⟩,g8,g9,g10⟩
theorem zov [zag] (t:TypeId) (x hi:Operand):dK P T s ⟨dst,.slice t x none (some hi) none,ty,pos,af,g⟩ (kk Ke) = zEK T s dst t x hi (s.ev x) (s.ev hi) (kk Ke):=by
 have hr:(zep T s.rw s.ev (.slice t x none (some hi) none) fun p=>Ke ⟨zmB s ⟨dst,.slice t x none (some hi) none,ty,pos,af,g⟩,.ids []⟩ (s.put dst p)) = zcW [s.ev x,s.ev hi] [] (kk fun l=>zbs T s.rw s.ev t (s.ev x) none (some hi) none (kk fun p=>Ke ⟨l,.ids []⟩ (s.put dst p))):=(rfl)
 show zFM T s ⟨dst,.slice t x none (some hi) none,ty,pos,af,g⟩ t (s.ev x) (s.ev hi) (kk Ke) = _
 cases hx:s.ev x with
 | own k ver =>
   rw [hx] at hr
   unfold zFM zEK zot
   dsimp only
   generalize s.rw k = r
   cases r with
   | mk v kd =>
     cases kd with
     | sli e z fz c=>cases fz with
       | false=>rfl
       | true=>exact hr
     | _=>exact hr
 | _=>rw [hx] at hr;exact hr
theorem zow [zag] (t:TypeId) (x lo hi:Operand):dK P T s ⟨dst,.slice t x (some lo) (some hi) none,ty,pos,af,g⟩ (kk Ke) = zcW [s.ev x,s.ev lo,s.ev hi] [] (kk fun l=>zbs T s.rw s.ev t (s.ev x) (some lo) (some hi) none (kk fun p=>Ke ⟨l,.ids []⟩ (s.put dst p))):=(rfl)
theorem zsM [zag] (t:TypeId) (parts:List (Nat × Operand)):dK P T s ⟨dst,.build t ⟨parts⟩,ty,pos,af,g⟩ (kk Ke) = zcW (evs s parts) [] (kk fun l=>zEI T s.rw (T t).k (T t).size (T t).zero (zEb s parts) (kk fun p=>Ke ⟨l,.ids []⟩ (s.put dst p))):=by
 have e:((Op.build t ⟨parts⟩).operands.toList.map s.ev).flatMap zdT = (evs s parts).flatMap zdT:=by
  simp [Op.operands,evs]
  rfl
 show zep T s.rw s.ev (.build t ⟨parts⟩) (fun p=>Ke ⟨((Op.build t ⟨parts⟩).operands.toList.map s.ev).flatMap zdT,.ids []⟩ (s.put dst p)) = _
 rw [e]
 exact (zBK (T:=T) (s:=s) t parts (fun p=>Ke ⟨(evs s parts).flatMap zdT,.ids []⟩ (s.put dst p)))
def zEd [zag] (P:Program) (f:FuncId) (raw:List PV) (d:Nat) (s:St) (Ke:Ent→St→Prop):Prop:=zEY P s f raw d (fun rd k s1=>Ke ⟨rd,.ids [d,k]⟩ s1)
theorem zAc [zag] {f:FuncId} {x head out lent:List PV} {e j vj d:Nat} {ok fr:Bool} {Ka:RV→Prop} {us:Dm s} {u:Dm Ke} (h:AF P f x head e out ok) (hj:s.rw j = ⟨vj,.sli e 1 false head⟩) (hp:zbB head) (hd:d % 1000 ≠ j % 1000) (hjl:j < 1000000)
 (hk:Ke ⟨[],.ids [d,j]⟩ (((s.row j ⟨vj + 1,.dead⟩).row d ⟨(s.rw d).ver + 1,.sli e 1 false out⟩).put (some d) (.tup [.own d ((s.rw d).ver + 1),.v (.bool ok)]))):zhY P f lent Ka (zEd P f [.sl fr 1 x,.own j vj] d (kk s us) (kk Ke u)):=by
 have hrd:((s.row j ⟨(s.rw j).ver + 1,.dead⟩).rw d) = s.rw d:=zal _ _ fun h=>hd (by rw [h])
 have hk2:Ke ⟨[],.ids [d,j]⟩ (zak (s.killed j []) d (rvF e out ok)):=by
  rw [zCj,zlO,hrd,hj];exact hk
 exact .inr (.inr (.inl ⟨j,vj,e,x,head,out,ok,fr,h,rfl,hj,hp,hd,hjl,hk2⟩))
theorem zAd [zag] {f:FuncId} {raw lent:List PV} {k d:Nat} {x:RV} {r:Row} {Ka:RV→Prop} {us:Dm s} {u:Dm Ke} (rd:List Nat) (h:∀ s':St,s'.rw k = s.rw k→(∀ a ∈ rd,s'.rw a = s.rw a)→∀ K':St→Prop,K' (zak (s'.row k r) d x)→askG P s' f raw (some d) K') (hd:d % 1000 ≠ k % 1000)
 (hk:Ke ⟨rd,.ids [d,k]⟩ (zak (s.row k r) d x)):zhY P f lent Ka (zEd P f raw d (kk s us) (kk Ke u)):=.inr (.inr (.inr ⟨rd,k,x,r,h,hd,hk⟩))
theorem zwX [zag] (d:Nat) (f:Operand) (args:List Operand) (ts:Array TypeId):dK P T s ⟨some d,.call ⟨.value f,⟨args⟩,ts⟩,ty,pos,af,g⟩ (kk Ke) =
 zeo s.rw 3 (zwG s args) [] (kk fun l=>zeo s.rw 4 [s.ev f] l (kk fun l'=>zzZ (s.ev f) (kk fun g caps=>zhY P g (zgS s args ++ caps.map (zcn s.rw 3)) (kk fun rv=>Ke ⟨l',.res d⟩ (zak s d rv)) (zEd P g (zwG s args ++ caps) d (kk s) (kk Ke))))):=by
 simp only [zeo,zz9,List.nil_append,List.flatMap_cons,List.flatMap_nil,List.append_nil]
 show (zdZ P s.rw s.ev f ⟨args⟩ (fun rv=>Ke ⟨(zwG s args).flatMap (zdH s.rw 3) ++ zdH s.rw 4 (s.ev f),.res d⟩ (zak s d rv)) ∨ tdK P s f ⟨.value f,⟨args⟩,ts⟩ d Ke) = _
 unfold zdZ tdK zzZ zhY zEd kk
 cases s.ev f <;> first | rfl | (simp;done) | skip
theorem zhz [zag] (f:Operand) (args:List Operand) (ts:Array TypeId):dK P T s ⟨none,.call ⟨.value f,⟨args⟩,ts⟩,ty,pos,af,g⟩ (kk Ke) =
 zeo s.rw 3 (zwG s args) [] (kk fun l=>zeo s.rw 4 [s.ev f] l (kk fun l'=>zzZ (s.ev f) (kk fun g caps=>zhY P g (zgS s args ++ caps.map (zcn s.rw 3)) (kk fun rv=>Ke ⟨l',.ids []⟩ s) False))):=by
 have e:=zAb (P:=P) (s:=s) f args (fun rv=>Ke ⟨(zwG s args).flatMap (zdH s.rw 3) ++ zdH s.rw 4 (s.ev f),.ids []⟩ s)
 simp only [zeo,zz9,List.nil_append,List.flatMap_cons,List.flatMap_nil,List.append_nil]
 exact e
theorem zox [zag] (d:Nat) (x y:Operand) (t t2:TypeId):dK P T s ⟨some d,.call ⟨.builtin .append,#[x,y],#[t,t2]⟩,ty,pos,af,g⟩ (kk Ke) =
 zcW [s.ev y] [] (kk fun l=>zcW [s.ev x] [d] (kk fun l'=>opK P T s ⟨some d,.call ⟨.builtin .append,#[x,y],#[t,t2]⟩,ty,pos,af,g⟩ (Ke ⟨l,.ids l'⟩))):=by
 have e:∀ p:PV,[p].flatMap zdT = zdT p:=fun p=>by simp
 unfold zcW
 simp only [kk,e,List.nil_append]
 rfl
theorem zsN [zag] (d:Nat) (t:TypeId):dK P T s ⟨some d,.alloc t,ty,pos,af,g⟩ (kk Ke) = opK P T s ⟨some d,.alloc t,ty,pos,af,g⟩ (Ke ⟨[],.ids [d]⟩):=(rfl)
theorem zBW [zag] (d:Nat) (t:TypeId) (x:Operand):dK P T s ⟨some d,.box t x,ty,pos,af,g⟩ (kk Ke) = zcW [s.ev x] [] (kk fun l=>opK P T s ⟨some d,.box t x,ty,pos,af,g⟩ (Ke ⟨l,.ids [d]⟩)):=by
 have e:∀ p:PV,[p].flatMap zdT = zdT p:=fun p=>by simp
 unfold zcW
 simp only [kk,e,List.nil_append]
 rfl
theorem zgg [zag] (d:Nat) (t:TypeId) (n:Nat) (parts:List (Nat × Operand)):dK P T s ⟨some d,.buildSlice t n ⟨parts⟩,ty,pos,af,g⟩ (kk Ke) = zcW (evs s parts) [d] (kk fun l=>opK P T s ⟨some d,.buildSlice t n ⟨parts⟩,ty,pos,af,g⟩ (Ke ⟨[],.ids l⟩)):=(rfl)
theorem zsO [zag] (t:TypeId) (ad x:Operand):dK P T s ⟨dst,.store t ad x,ty,pos,af,g⟩ (kk Ke) = zcW [s.ev ad,s.ev x] [] (kk fun l=>opK P T s ⟨dst,.store t ad x,ty,pos,af,g⟩ (Ke ⟨[],.ids l⟩)):=by
 have e:[s.ev ad,s.ev x].flatMap zdT = zdT (s.ev ad) ++ zdT (s.ev x):=by simp
 unfold zcW
 simp only [kk,e,List.nil_append]
 rfl
theorem zwY [zag] (d:Nat) (t:TypeId) (l c:Operand):dK P T s ⟨some d,.makeSlice t l c,ty,pos,af,g⟩ (kk Ke) = opK P T s ⟨some d,.makeSlice t l c,ty,pos,af,g⟩ (Ke ⟨[],.ids [d]⟩):=(rfl)
end
def TK.isInt:TK→Bool | .int _=>true | _=>false
section
variable {Kp:PV→Prop} {rw:Nat→Row}
section
variable (t:TypeId) (k:IntKind) (a b:Int)
theorem zwZ:zcM T .add t (.v (.int k a)) (.v (.int k b)) Kp = Kp (.v (.int k (k.wrap (a + b)))):=by simp [zcM,zbt,zb0]
theorem zw0:zcM T .sub t (.v (.int k a)) (.v (.int k b)) Kp = Kp (.v (.int k (k.wrap (a - b)))):=by simp [zcM,zbt,zb0]
theorem zw1:zcM T .mul t (.v (.int k a)) (.v (.int k b)) Kp = Kp (.v (.int k (k.wrap (a * b)))):=by simp [zcM,zbt,zb0]
theorem zw2:zcM T .quo t (.v (.int k a)) (.v (.int k b)) Kp = (b ≠ 0∧Kp (.v (.int k (k.wrap (a.tdiv b))))):=by simp [zcM,zbt,zb0]
theorem zw3:zcM T .rem t (.v (.int k a)) (.v (.int k b)) Kp = (b ≠ 0∧Kp (.v (.int k (a.tmod b)))):=by simp [zcM,zbt,zb0]
theorem zw4:zcM T .and t (.v (.int k a)) (.v (.int k b)) Kp = Kp (.v (.int k (zcS k a b))):=by simp [zcM,zbt,zb0]
theorem zBX:zcM T .or t (.v (.int k a)) (.v (.int k b)) Kp = Kp (.v (.int k (ior k a b))):=by simp [zcM,zbt,zb0]
theorem zw5:zcM T .xor t (.v (.int k a)) (.v (.int k b)) Kp = Kp (.v (.int k (zDa k a b))):=by simp [zcM,zbt,zb0]
theorem zlk:zcM T .andNot t (.v (.int k a)) (.v (.int k b)) Kp = Kp (.v (.int k (zb7 k a b))):=by simp [zcM,zbt,zb0]
theorem zw6 (k':IntKind):zcM T .shl t (.v (.int k a)) (.v (.int k' b)) Kp = (0 ≤ b∧Kp (.v (.int k (zz1 k a b)))):=by simp [zcM,zbt,zb0]
theorem zw7 (k':IntKind):zcM T .shr t (.v (.int k a)) (.v (.int k' b)) Kp = (0 ≤ b∧Kp (.v (.int k (zz2 k a b)))):=by simp [zcM,zbt,zb0]
theorem zw8:zcM T .eql t (.v (.int k a)) (.v (.int k b)) Kp = Kp (.v (.bool (a == b))):=by simp [zcM,zbt,zb0]
theorem zw9:zcM T .neq t (.v (.int k a)) (.v (.int k b)) Kp = Kp (.v (.bool (a != b))):=by simp [zcM,zbt,zb0]
theorem zxa:zcM T .lss t (.v (.int k a)) (.v (.int k b)) Kp = Kp (.v (.bool (decide (a < b)))):=by simp [zcM,zbt,zb0]
theorem zxb:zcM T .leq t (.v (.int k a)) (.v (.int k b)) Kp = Kp (.v (.bool (decide (a ≤ b)))):=by simp [zcM,zbt,zb0]
theorem zxc:zcM T .gtr t (.v (.int k a)) (.v (.int k b)) Kp = Kp (.v (.bool (decide (b < a)))):=by simp [zcM,zbt,zb0]
theorem zxd:zcM T .geq t (.v (.int k a)) (.v (.int k b)) Kp = Kp (.v (.bool (decide (b ≤ a)))):=by simp [zcM,zbt,zb0]
end
theorem zi2 (t:TypeId) (a b:ByteArray):zcM T .eql t (.v (.string a)) (.v (.string b)) Kp = Kp (.v (.bool (a.toList == b.toList))):=by simp [zcM,zl2]
theorem zi3 (t:TypeId) (a b:ByteArray):zcM T .neq t (.v (.string a)) (.v (.string b)) Kp = Kp (.v (.bool (!(a.toList == b.toList)))):=by simp [zcM,zl2]
theorem zi4 (t:TypeId) (a b:ByteArray):zcM T .add t (.v (.string a)) (.v (.string b)) Kp = (a.size + b.size ≤ 9223372036854775807∧Kp (.v (.string (a ++ b)))):=by simp [zcM,zl2]
theorem zhA (t:TypeId) (a b:Bool):zcM T .eql t (.v (.bool a)) (.v (.bool b)) Kp = ((T t).k = .bool∧0 < (T t).size∧Kp (.v (.bool (a == b)))):=by simp [zcM]
theorem zhB (t:TypeId) (a b:Bool):zcM T .neq t (.v (.bool a)) (.v (.bool b)) Kp = ((T t).k = .bool∧0 < (T t).size∧Kp (.v (.bool (!(a == b))))):=by simp [zcM]
theorem zBY (b:Bool):unK .not (.v (.bool b)) Kp = Kp (.v (.bool !b)):=(rfl)
theorem zBZ (k:IntKind) (n:Int):unK .neg (.v (.int k n)) Kp = Kp (.v (.int k (k.wrap (0 - n)))):=(rfl)
theorem zsP (fr:Bool) (c:List PV) (off:Nat) (Km:Md→List PV→Nat→Prop):zqn rw (.eref fr c off) Km = Km (.set fr) c off:=(rfl)
def zi5 (r:Row) (ver off:Nat) (Km:Md→List PV→Nat→Prop):Prop:=r.ver = ver∧match r.kind with | .box _ c=>Km .asis c off | .sli _ _ _ c=>Km (.set true) c off | .tab _ c=>Km .asis c off | _=>False
theorem zxe (j ver off:Nat) (Km:Md→List PV→Nat→Prop):zqn rw (.ref j ver off) Km = zi5 (rw j) ver off Km:=(rfl)
theorem zll (ver off:Nat) (bt:TypeId) (c:List PV) (Km:Md→List PV→Nat→Prop):zi5 ⟨ver,.box bt c⟩ ver off Km = Km .asis c off:=by simp [zi5]
theorem zlm (ver off e:Nat) (c:List PV) (Km:Md→List PV→Nat→Prop):zi5 ⟨ver,.tab e c⟩ ver off Km = Km .asis c off:=by simp [zi5]
theorem zln (ver off e sz:Nat) (fz:Bool) (c:List PV) (Km:Md→List PV→Nat→Prop):zi5 ⟨ver,.sli e sz fz c⟩ ver off Km = Km (.set true) c off:=by simp [zi5]
def zhC (r:Row) (ver:Nat) (K:PV→Prop):Prop:=r.ver = ver∧match r.kind with | .nil=>K (.v (.int .i64 0)) | .sli _ sz _ c=>0 < sz∧K (.v (.int .i64 ((c.length / sz:Nat):Int))) | .tab _ c=>K (.v (.int .i64 (c.length:Int))) | _=>False
def zCT (rw:Nat→Row) (k:TK) (z:Nat) (x:PV) (K:PV→Prop):Prop :=
 0 < z∧match k with
 | .str=>(match x with | .v (.string s)=>K (.v (.int .i64 s.size)) | _=>False)
 | .sli _=>zvR rw x fun sz n=>0 < sz∧K (.v (.int .i64 ((n / sz:Nat):Int)))
 | .arr n _=>K (.v (.int .i64 n))
 | _=>False
theorem zB0 (t:TypeId) (x:PV):zyp T rw t x Kp = zCT rw (T t).k (T t).size x Kp:=(rfl)
theorem zxf (b:ByteArray):zCT rw .str 1 (.v (.string b)) Kp = Kp (.v (.int .i64 b.size)):=by simp [zCT]
theorem zB1 (e:TypeId) (fr:Bool) (c:List PV):zCT rw (.sli e) 1 (.sl fr 1 c) Kp = Kp (.v (.int .i64 (c.length:Int))):=by simp [zCT,zvR]
theorem zxg (e:TypeId) (j ver:Nat):zCT rw (.sli e) 1 (.own j ver) Kp = zhC (rw j) ver Kp:=by
 simp only [zCT,zvR,zhC,true_and,Nat.one_pos]
 cases (rw j).kind <;> simp
theorem zlo (ver e:Nat) (fz:Bool) (c:List PV):zhC ⟨ver,.sli e 1 fz c⟩ ver Kp = Kp (.v (.int .i64 (c.length:Int))):=by simp [zhC]
theorem zlp (ver e:Nat) (c:List PV):zhC ⟨ver,.tab e c⟩ ver Kp = Kp (.v (.int .i64 (c.length:Int))):=by simp [zhC]
theorem zlq (ver:Nat):zhC ⟨ver,.nil⟩ ver Kp = Kp (.v (.int .i64 0)):=by simp [zhC]
def iaD (T:Tab) (rw:Nat→Row) (kd:TK) (z:Nat) (x i:PV) (K:PV→Prop):Prop :=
 match i with
 | .v (.int _ n) =>
   0 < z∧match kd with
   | .sli e =>
     (match x with
     | .sl fr sz c=>0 < (T e).size∧sz = (T e).size∧0 ≤ n∧n.toNat * sz < c.length∧K (.eref fr c (n.toNat * sz))
     | .own k ver=>(rw k).ver = ver∧match (rw k).kind with | .sli _ sz _ c=>0 < (T e).size∧sz = (T e).size∧0 ≤ n∧n.toNat * sz < c.length∧K (.ref k ver (n.toNat * sz)) | .tab _ c=>(T e).size = 1∧0 ≤ n∧n.toNat < c.length∧K (.ref k ver n.toNat) | _=>False
     | _=>False)
   | .arr len e=>zjI x = true∧0 < (T e).size∧0 ≤ n∧n < len∧zdb rw x (K (zdK x (n.toNat * (T e).size)))
   | _=>False
 | _=>False
theorem zEL (t:TypeId) (x i:PV):zbk T rw t x i Kp = iaD T rw (T t).k (T t).size x i Kp:=(rfl)
theorem zEM {e:TypeId} {k:IntKind} (fr:Bool) (c:List PV) (n:Int) (h2:(T e).size = 1) :
 iaD T rw (.sli e) 1 (.sl fr 1 c) (.v (.int k n)) Kp = (0 ≤ n∧n < (c.length:Int)∧Kp (.eref fr c n.toNat)):=by
 simp only [iaD,h2,Nat.mul_one,true_and,Nat.one_pos]
 refine propext ⟨fun ⟨a,b,c⟩=>⟨a,by omega,c⟩,fun ⟨a,b,c⟩=>⟨a,by omega,c⟩⟩
def zuA (r:Row) (j ver:Nat) (n:Int) (K:PV→Prop):Prop:=r.ver = ver∧match r.kind with | .sli _ sz _ c=>sz = 1∧0 ≤ n∧n < (c.length:Int)∧K (.ref j ver n.toNat) | .tab _ c=>0 ≤ n∧n < (c.length:Int)∧K (.ref j ver n.toNat) | _=>False
theorem zB2 {e:TypeId} {k:IntKind} (j ver:Nat) (n:Int) (h2:(T e).size = 1) :
 iaD T rw (.sli e) 1 (.own j ver) (.v (.int k n)) Kp = zuA (rw j) j ver n Kp:=by
 simp only [iaD,h2,zuA,true_and,Nat.one_pos]
 cases (rw j).kind <;> simp
 ·rintro _ rfl h
  rw [Nat.mul_one]
  exact ⟨fun ⟨a,b⟩=>⟨by omega,b⟩,fun ⟨a,b⟩=>⟨by omega,b⟩⟩
 ·intros;omega
theorem zxh {e:TypeId} {k:IntKind} (len z j ver off:Nat) (n:Int) (h2:(T e).size = 1):iaD T rw (.arr len e) (z + 1) (.ref j ver off) (.v (.int k n)) Kp = (0 ≤ n∧n < (len:Int)∧zdb rw (.ref j ver off) (kk (Kp (.ref j ver (off + n.toNat))))):=by
 simp only [iaD,h2,Nat.mul_one,Nat.zero_lt_succ,Nat.one_pos,true_and,zjI,zdK,kk]
theorem zB3 [zag] {e:TypeId} {k:IntKind} (len z j ver off:Nat) (n:Int) (h2:(T e).size = 1):iaD T rw (.arr len e) (z + 1) (.ref j ver (off + 1)) (.v (.int k n)) Kp = (0 ≤ n∧n < (len:Int)∧zdb rw (.ref j ver (off + 1)) (kk (Kp (.ref j ver (off + 1 + n.toNat))))):=zxh _ _ _ _ _ _ h2
theorem zxi [zag] {e:TypeId} {k:IntKind} (len z j ver:Nat) (n:Int) (h2:(T e).size = 1):iaD T rw (.arr len e) (z + 1) (.ref j ver 0) (.v (.int k n)) Kp = (0 ≤ n∧n < (len:Int)∧zdb rw (.ref j ver 0) (kk (Kp (.ref j ver n.toNat)))):=by
 rw [zxh _ _ _ _ _ _ h2,Nat.zero_add]
theorem zoy (j ver e:Nat) (c:List PV) (n:Int):zuA ⟨ver,.tab e c⟩ j ver n Kp = (0 ≤ n∧n < (c.length:Int)∧Kp (.ref j ver n.toNat)):=by simp [zuA]
theorem zoz (j ver e:Nat) (fz:Bool) (c:List PV) (n:Int):zuA ⟨ver,.sli e 1 fz c⟩ j ver n Kp = (0 ≤ n∧n < (c.length:Int)∧Kp (.ref j ver n.toNat)):=by simp [zuA]
theorem zgU {α:Type} (f:α→PV) (d:α) (xs:List α) {t:TypeId} {m:Md} (o:Nat) (g:α→PV) (hg:∀ x,m.fix (f x) = g x) (h0:(T t).k.agg = false) (h1:0 < (T t).size) :
 ldK T t m (xs.map f) o Kp = (o < xs.length∧Kp (g (xs.getD o d))):=by
 simp only [ldK,h0,h1,true_and,List.length_map]
 refine propext ⟨fun ⟨a,b⟩=>⟨a,?_⟩,fun ⟨a,b⟩=>⟨a,?_⟩⟩
 ·have e:(xs.map f).getD o .junk = f xs[o]:=by simp [List.getD,a]
  have e2:xs.getD o d = xs[o]:=by simp [List.getD,a]
  rw [e,hg] at b
  rw [e2]
  exact b
 ·have e:(xs.map f).getD o .junk = f xs[o]:=by simp [List.getD,a]
  have e2:xs.getD o d = xs[o]:=by simp [List.getD,a]
  rw [e,hg]
  rw [e2] at b
  exact b
theorem zuB (m:Md) (v:Value):m.fix (.v v) = .v v:=by cases m <;> rfl
theorem zB4 (fr f:Bool) (sz:Nat) (c:List PV):(Md.set fr).fix (.sl f sz c) = .sl fr sz c:=(rfl)
theorem zsQ (p:PV):Md.asis.fix p = p:=(rfl)
theorem zEN [zag] (xs:List Int) {t:TypeId} {m:Md} (o:Nat) (h0:(T t).k.agg = false) (h1:0 < (T t).size):ldK T t m (iL xs) o Kp = (o < xs.length∧Kp (.v (.int .i64 (xs.getD o 0)))) :=
 zgU _ 0 xs o _ (fun x=>zuB m _) h0 h1
theorem zEO [zag] (k:IntKind) (xs:List Int) {t:TypeId} {m:Md} (o:Nat) (h0:(T t).k.agg = false) (h1:0 < (T t).size):ldK T t m (kL k xs) o Kp = (o < xs.length∧Kp (.v (.int k (xs.getD o 0)))) :=
 zgU _ 0 xs o _ (fun x=>zuB m _) h0 h1
theorem zEP [zag] (xs:List Bool) {t:TypeId} {m:Md} (o:Nat) (h0:(T t).k.agg = false) (h1:0 < (T t).size):ldK T t m (bL xs) o Kp = (o < xs.length∧Kp (.v (.bool (xs.getD o false)))) :=
 zgU _ false xs o _ (fun x=>zuB m _) h0 h1
theorem zEQ [zag] (xs:List ByteArray) {t:TypeId} {m:Md} (o:Nat) (h0:(T t).k.agg = false) (h1:0 < (T t).size):ldK T t m (sL xs) o Kp = (o < xs.length∧Kp (.v (.string (xs.getD o ⟨#[]⟩)))) :=
 zgU (fun n=>PV.v (.string n)) ⟨#[]⟩ xs o (fun n=>PV.v (.string n)) (fun x=>zuB m _) h0 h1
theorem zB5 [zag] (xs:List (List Int)) {t:TypeId} {fr:Bool} (o:Nat) (h0:(T t).k.agg = false) (h1:0 < (T t).size):ldK T t (.set fr) (iLL xs) o Kp = (o < xs.length∧Kp (.sl fr 1 (iL (xs.getD o [])))) :=
 zgU _ [] xs o (fun r=>.sl fr 1 (iL r)) (fun x=>rfl) h0 h1
theorem zER {t:TypeId} {m:Md} (p:PV) (c:List PV) (h0:(T t).k.agg = false) (h1:0 < (T t).size):ldK T t m (p :: c) 0 Kp = evK (m.fix p) Kp:=by simp [ldK,h0,h1,evK]
theorem zES {t:TypeId} {m:Md} (p q:PV) (c:List PV) (h0:(T t).k.agg = false) (h1:0 < (T t).size):ldK T t m (p :: q :: c) 1 Kp = evK (m.fix q) Kp:=by simp [ldK,h0,h1,evK]
theorem zET {t:TypeId} {m:Md} (p q r:PV) (c:List PV) (h0:(T t).k.agg = false) (h1:0 < (T t).size):ldK T t m (p :: q :: r :: c) 2 Kp = evK (m.fix r) Kp:=by simp [ldK,h0,h1,evK]
theorem zEU {t:TypeId} {m:Md} (p q r s:PV) (c:List PV) (h0:(T t).k.agg = false) (h1:0 < (T t).size):ldK T t m (p :: q :: r :: s :: c) 3 Kp = evK (m.fix s) Kp:=by simp [ldK,h0,h1,evK]
theorem zxj {t:TypeId} {m:Md} (p:PV) (c0:List PV) (o:Nat) (h0:(T t).k.agg = true) (h1:0 < (T t).size):ldK T t m (p :: c0) o Kp = (o + (T t).size ≤ (p :: c0).length∧evK (.ag ((((p :: c0).drop o).take (T t).size).map m.fix)) Kp):=by simp [ldK,h0,h1,evK]
def zsR (T:Tab) (kd:TK) (z:Nat) (f:Nat) (K:Nat→TypeId→Prop):Prop :=
 0 < z∧match kd with | .struct fs=>(match fs[f]? with | some (o,ft)=>0 < (T ft).size∧K o ft | none=>False) | _=>False
def zEV (T:Tab) (x:Option (Nat × TypeId)) (K:Nat→TypeId→Prop):Prop:=match x with | some (o,ft)=>0 < (T ft).size∧K o ft | none=>False
theorem zsS (t:TypeId) (f:Nat) (Kf:Nat→TypeId→Prop):zdu T t f Kf = zsR T (T t).k (T t).size f Kf:=(rfl)
theorem zey (fs:List (Nat × TypeId)) (z f:Nat) (Kf:Nat→TypeId→Prop):zsR T (.struct fs) (z + 1) f Kf = zEV T fs[f]? Kf:=by simp only [zsR,zEV,Nat.zero_lt_succ,true_and]
theorem zoA (o:Nat) (ft:TypeId) (Kf:Nat→TypeId→Prop) (h:0 < (T ft).size):zEV T (some (o,ft)) Kf = Kf o ft:=by simp [zEV,h]
theorem zgh [zag] (fs:List (Nat × TypeId)) (f:Nat) (Kf:Nat→TypeId→Prop):zsR T (.struct fs) 2 f Kf = zEV T fs[f]? Kf:=zey fs 1 f Kf
theorem zoB (fr:Bool) (c:List PV) (o:Nat) (A:Prop):zdb rw (.eref fr c o) (kk A) = A:=(rfl)
theorem zsT (f:FuncId) (c:List PV) (A:Prop):zdb rw (.clo f c) (kk A) = A:=(rfl)
def zgV (r:Row) (ver:Nat) (A:Prop):Prop:=r.ver = ver∧r.kind.nd = true∧A
theorem zsU (j ver o:Nat) (A:Prop):zdb rw (.ref j ver o) A = zgV (rw j) ver A:=(rfl)
theorem zi6 (ver:Nat) (bt:TypeId) (c:List PV) (A:Prop):zgV ⟨ver,.box bt c⟩ ver (kk A) = A:=by simp [zgV,RK.nd,kk]
theorem zoC (j v o:Nat):zjI (.ref j v o) = true:=(rfl)
theorem zlr (fr:Bool) (c:List PV) (o:Nat):zjI (.eref fr c o) = true:=(rfl)
theorem zoD (j v o d:Nat):zdK (.ref j v o) d = .ref j v (o + d):=(rfl)
theorem zls (fr:Bool) (c:List PV) (o d:Nat):zdK (.eref fr c o) d = .eref fr c (o + d):=(rfl)
def zCU (kd kd2:TK) (x:PV) (K:PV→Prop):Prop:=match kd,kd2,x with
 | .int _,.int k,.v (.int _ n)=>K (.v (.int k (k.wrap n)))
 | .str,.str,.v (.string s)=>K (.v (.string s))
 | _,_,_=>False
theorem zsV {a b:TypeId} {k:IntKind} (n:Int) (h1:(T a).k.isInt = true) (h2:(T b).k.isInt = true) (h3:0 < (T a).size) (h4:0 < (T b).size):zgw T rw a b (.v (.int k n)) Kp = zCU (T a).k (T b).k (.v (.int k n)) Kp:=by
 revert h1 h2
 simp only [zgw,zCU,h3,h4,true_and]
 cases (T a).k <;> simp [TK.isInt]
 cases (T b).k <;> simp [TK.isInt]
theorem zoE (k1 k2 k:IntKind) (n:Int):zCU (.int k1) (.int k2) (.v (.int k n)) Kp = Kp (.v (.int k2 (k2.wrap n))):=(rfl)
theorem zsW {a b:TypeId} (n:ByteArray) (h1:(T a).k = .str) (h2:(T b).k = .str) (h3:0 < (T a).size) (h4:0 < (T b).size):zgw T rw a b (.v (.string n)) Kp = Kp (.v (.string n)):=by
 simp [zgw,h1,h2,h3,h4]
theorem zoF {t:TypeId} {k:IntKind} (b:ByteArray) (n:Int) (h0:(T t).k = .str) (h1:0 < (T t).size):zsr T t (.v (.string b)) (.v (.int k n)) Kp = (0 ≤ n∧n.toNat < b.size∧Kp (.v (.int .u8 ((b.data.toList.getD n.toNat 0).toNat:Int)))):=by
 simp [zsr,h0,h1]
theorem zlt (k k':IntKind) (a b:Int):zcv true (.v (.int k a)) (.v (.int k' b)) Kp = Kp (.v (.int k (if b > a then b else a))):=(rfl)
theorem zlu (k k':IntKind) (a b:Int):zcv false (.v (.int k a)) (.v (.int k' b)) Kp = Kp (.v (.int k (if b < a then b else a))):=(rfl)
def zqB (p:PV) (K:Int→Prop):Prop:=match p with | .v (.int _ n)=>K n | _=>False
theorem zsX (k:IntKind) (n:Int) (Ki:Int→Prop):zqB (.v (.int k n)) Ki = Ki n:=(rfl)
def zmt (T:Tab) (rw:Nat→Row) (ev:Operand→PV) (kd:TK) (z:Nat) (x:PV) (lo hi mx:Option Operand) (K:PV→Prop):Prop :=
 0 < z∧match kd with
 | .str=>mx = none∧(match x with
  | .v (.string s)=>zko ev lo 0 fun l=>zko ev hi s.size fun h=>0 ≤ l∧l ≤ h∧h ≤ s.size∧K (.v (.string (s.extract l.toNat h.toNat)))
  | _=>False)
 | .sli e=>zfP rw x fun fr sz c=>0 < (T e).size∧sz = (T e).size ∧
  zko ev lo 0 fun l=>zko ev hi ((c.length / sz:Nat):Int) fun h=>zko ev mx ((c.length / sz:Nat):Int) fun m=>0 ≤ l∧l ≤ h∧h ≤ m∧m ≤ ((c.length / sz:Nat):Int)∧(hi = none→mx = none) ∧
   K (.sl fr sz ((c.take (h.toNat * sz)).drop (l.toNat * sz)))
 | _=>False
theorem zB6 (t:TypeId) (ev:Operand→PV) (x:PV) (lo hi mx:Option Operand):zbs T rw ev t x lo hi mx Kp = zmt T rw ev (T t).k (T t).size x lo hi mx Kp:=(rfl)
theorem zsY {e:TypeId} (fr:Bool) (c:List PV) (x:Operand) (h2:(T e).size = 1):zmt T rw s.ev (.sli e) 1 (.sl fr 1 c) (some x) none none Kp = zqB (s.ev x) (kk fun l=>0 ≤ l∧l ≤ (c.length:Int)∧Kp (.sl fr 1 (c.drop l.toNat))):=by
 simp only [zmt,zfP,zko,h2,zqB,kk]
 cases s.ev x <;> simp
 rename_i v
 cases v <;> simp
theorem zsZ {e:TypeId} (fr:Bool) (c:List PV) (x:Operand) (h2:(T e).size = 1):zmt T rw s.ev (.sli e) 1 (.sl fr 1 c) none (some x) none Kp = zqB (s.ev x) (kk fun l=>0 ≤ l∧l ≤ (c.length:Int)∧Kp (.sl fr 1 (c.take l.toNat))):=by
 simp only [zmt,zfP,zko,h2,zqB,kk]
 cases s.ev x <;> simp
 rename_i v
 cases v <;> simp
theorem zs0 {e:TypeId} (fr:Bool) (c:List PV) (x y:Operand) (h2:(T e).size = 1):zmt T rw s.ev (.sli e) 1 (.sl fr 1 c) (some x) (some y) none Kp = zqB (s.ev x) (kk fun l=>zqB (s.ev y) (kk fun h=>0 ≤ l∧l ≤ h∧h ≤ (c.length:Int)∧Kp (.sl fr 1 ((c.take h.toNat).drop l.toNat)))):=by
 simp only [zmt,zfP,zko,h2,zqB,kk]
 cases s.ev x <;> simp
 rename_i v
 cases v <;> simp
 rename_i q n
 cases s.ev y <;> try simp
 rename_i v
 cases v <;> try simp
theorem zxk {e:TypeId} (fr:Bool) (c:List PV) (h2:(T e).size = 1):zmt T rw s.ev (.sli e) 1 (.sl fr 1 c) none none none Kp = Kp (.sl fr 1 c):=by
 simp only [zmt,zfP,zko,h2]
 simp
theorem zs1 (b:ByteArray) (x:Operand):zmt T rw s.ev .str 1 (.v (.string b)) (some x) none none Kp = zqB (s.ev x) (kk fun l=>0 ≤ l∧l ≤ (b.size:Int)∧Kp (.v (.string (b.extract l.toNat b.size)))):=by
 simp only [zmt,zko,zqB,kk]
 cases s.ev x <;> simp
 rename_i v
 cases v <;> simp
theorem zs2 (b:ByteArray) (x:Operand):zmt T rw s.ev .str 1 (.v (.string b)) none (some x) none Kp = zqB (s.ev x) (kk fun h=>0 ≤ h∧h ≤ (b.size:Int)∧Kp (.v (.string (b.extract 0 h.toNat)))):=by
 simp only [zmt,zko,zqB,kk]
 cases s.ev x <;> simp
 rename_i v
 cases v <;> simp
theorem zs3 (b:ByteArray) (x y:Operand):zmt T rw s.ev .str 1 (.v (.string b)) (some x) (some y) none Kp = zqB (s.ev x) (kk fun l=>zqB (s.ev y) (kk fun h=>0 ≤ l∧l ≤ h∧h ≤ (b.size:Int)∧Kp (.v (.string (b.extract l.toNat h.toNat))))):=by
 simp only [zmt,zko,zqB,kk]
 cases s.ev x <;> simp
 rename_i v
 cases v <;> simp
 rename_i q n
 cases s.ev y <;> try simp
 rename_i v
 cases v <;> try simp
def zs4 (T:Tab) (r:Row) (k ver:Nat) (ev:Operand→PV) (e z:Nat) (rw:Nat→Row) (lo hi mx:Option Operand) (K:PV→Prop):Prop :=
 k < 1000000∧r.ver = ver∧match r.kind with | .sli _ sz true c=>zmt T rw ev (.sli e) z (.sl true sz c) lo hi mx K | _=>False
theorem zxl (e z k ver:Nat) (lo hi mx:Option Operand):zmt T rw s.ev (.sli e) z (.own k ver) lo hi mx Kp = zs4 T (rw k) k ver s.ev e z rw lo hi mx Kp:=by
 have el:(k < lent) = (k < 1000000):=rfl
 simp only [zmt,zfP,zs4,el]
 cases (rw k).kind with
 | sli e' sz fz c =>
   cases fz <;> simp
   refine ⟨fun ⟨a,b,c,d,h⟩=>⟨b,c,a,d,h⟩,fun ⟨b,c,a,d,h⟩=>⟨a,b,c,d,h⟩⟩
 | _=>simp
theorem zlv (e z k ver e' sz:Nat) (rw':Nat→Row) (c:List PV) (lo hi mx:Option Operand):zs4 T ⟨ver,.sli e' sz true c⟩ k ver s.ev e z rw' lo hi mx Kp = (k < 1000000∧zmt T rw' s.ev (.sli e) z (.sl true sz c) lo hi mx Kp):=by simp [zs4]
theorem zxm {Kf:List Nat→PV→Prop} (t:TypeId) (fr:Bool) (z:Nat) (c:List PV) (lo hi mx:Option Operand):zEa T s t (.sl fr z c) lo hi mx (kk Kf) = zbs T s.rw s.ev t (.sl fr z c) lo hi mx (kk fun p=>Kf [] p):=(rfl)
theorem zB7 {Kf:List Nat→PV→Prop} (t:TypeId) (x:Value) (lo hi mx:Option Operand):zEa T s t (.v x) lo hi mx (kk Kf) = zbs T s.rw s.ev t (.v x) lo hi mx (kk fun p=>Kf [] p):=(rfl)
def zxn (T:Tab) (s:St) (t:TypeId) (r:Row) (k ver:Nat) (lo hi mx:Option Operand) (K:List Nat→PV→Prop):Prop :=
 match r.kind with
 | .sli _ _ false _=>zbs T (s.freeze [k]).rw s.ev t (.own k ver) lo hi mx (kk fun p=>K [k] p)
 | _=>zbs T s.rw s.ev t (.own k ver) lo hi mx (kk fun p=>K [] p)
theorem zs5 {Kf:List Nat→PV→Prop} (t:TypeId) (k ver:Nat) (lo hi mx:Option Operand):zEa T s t (.own k ver) lo hi mx (kk Kf) = zxn T s t (s.rw k) k ver lo hi mx (kk Kf):=(rfl)
theorem zi7 {Kf:List Nat→PV→Prop} (t:TypeId) (v e z:Nat) (c:List PV) (k ver:Nat) (lo hi mx:Option Operand):zxn T s t ⟨v,.sli e z false c⟩ k ver lo hi mx (kk Kf) = zbs T (s.freeze [k]).rw s.ev t (.own k ver) lo hi mx (kk fun p=>Kf [k] p):=(rfl)
theorem zoG {Kf:List Nat→PV→Prop} (t:TypeId) (v e z:Nat) (c:List PV) (k ver:Nat) (lo hi mx:Option Operand):zxn T s t ⟨v,.sli e z true c⟩ k ver lo hi mx (kk Kf) = zbs T s.rw s.ev t (.own k ver) lo hi mx (kk fun p=>Kf [] p):=(rfl)
theorem zxo {Kc:List PV→Prop} (x:Value) (h:x.oneCell' = true):zaX rw (.v x) Kc = Kc [.v x]:=by simp [zaX,h]
theorem zmu {Kc:List PV→Prop} (c:List PV):zaX rw (.ag c) Kc = Kc c:=(rfl)
theorem zs6 {Kc:List PV→Prop} (fr:Bool) (sz:Nat) (c:List PV):zaX rw (.sl fr sz c) Kc = Kc [.sl fr sz c]:=(rfl)
theorem zoH {Kc:List PV→Prop} (f:FuncId) (c:List PV):zaX rw (.clo f c) Kc = Kc [.clo f c]:=(rfl)
def zi8 (r:Row) (ver:Nat) (A:Prop):Prop:=r.ver = ver∧r.kind.slice = true∧A
theorem zoI {Kc:List PV→Prop} (j ver:Nat):zaX rw (.own j ver) Kc = zi8 (rw j) ver (kk (Kc [.own j ver])):=(rfl)
theorem zlw (ver e sz:Nat) (fz:Bool) (c:List PV) (A:Prop):zi8 ⟨ver,.sli e sz fz c⟩ ver (kk A) = A:=by simp [zi8,RK.slice,kk]
theorem zlx (ver e:Nat) (c:List PV) (A:Prop):zi8 ⟨ver,.tab e c⟩ ver (kk A) = A:=by simp [zi8,RK.slice,kk]
theorem zoJ {Kc:List PV→Prop} (j ver o:Nat):zaX rw (.ref j ver o) Kc = zgV (rw j) ver (kk (Kc [.ref j ver o])):=(rfl)
theorem zB8 {Kc:List PV→List Nat→Prop} (x:Value) (h:x.oneCell' = true):zcH rw (.v x) Kc = Kc [.v x] []:=by simp [zcH,h]
theorem zxp {Kc:List PV→List Nat→Prop} (sz:Nat) (c:List PV):zcH rw (.sl true sz c) Kc = Kc [.sl false sz c] []:=by simp [zcH]
theorem zxq {Kc:List PV→List Nat→Prop} (c:List PV):zcH rw (.ag c) Kc = ((∀ x ∈ c,isV x = true)∧Kc c []):=(rfl)
def zqC (r:Row) (k ver:Nat) (K:List PV→List Nat→Prop):Prop:=r.ver = ver∧k < lent∧(match r.kind with | .nil=>K [.sl false 1 []] [] | .sli _ sz _ c=>K [.sl false sz c] [k] | _=>False)
theorem zs7 {Kc:List PV→List Nat→Prop} (j ver:Nat):zcH rw (.own j ver) Kc = zqC (rw j) j ver Kc:=(rfl)
theorem zi9 {Kc:List PV→List Nat→Prop} (j ver e sz:Nat) (fz:Bool) (c:List PV) (h:j < lent):zqC ⟨ver,.sli e sz fz c⟩ j ver Kc = Kc [.sl false sz c] [j]:=by simp [zqC,h]
def allP (rw:Nat→Row) (l:List PV):Prop:=∀ p ∈ l,zhM rw p
theorem zxr (rw:Nat→Row) (l:List PV):(∀ p ∈ l,zhM rw p) = allP rw l:=(rfl)
theorem zs8 (rw:Nat→Row):allP rw [] = True:=by simp [allP]
theorem zoK (rw:Nat→Row) (p:PV) (l:List PV):allP rw (p :: l) = (zhM rw p∧allP rw l):=by simp [allP]
def zeh (s:St) (z j ver off:Nat) (r:Row) (x:PV) (K:St→Prop):Prop:=0 < z∧r.ver = ver∧match r.kind with
 | .box bt c=>zaX s.rw x fun new=>new.length = z∧off + new.length ≤ c.length∧allP s.rw new∧K (s.row j ⟨ver,.box bt (spl c off new)⟩)
 | .sli e sz false c=>zcH s.rw x fun new fz=>new.length = z∧off + new.length ≤ c.length∧j ∉ fz∧K ((s.freeze fz).row j ⟨ver,.sli e sz false (spl c off new)⟩)
 | .tab e c=>zaX s.rw x fun new=>new.length = z∧off + new.length ≤ c.length∧allP s.rw new∧K (s.row j ⟨ver,.tab e (spl c off new)⟩)
 | _=>False
theorem zoL (j ver off e:Nat) (c:List PV) (x:PV):zeh s 1 j ver off ⟨ver,.tab e c⟩ x K = zaX s.rw x (kk fun new=>new.length = 1∧off + new.length ≤ c.length∧allP s.rw new∧K (s.row j ⟨ver,.tab e (spl c off new)⟩)):=by
 simp only [zeh,Nat.one_pos,true_and,kk]
theorem zs9 (t:TypeId) (j ver off:Nat) (x:PV):zpA T s t (.ref j ver off) x K = zeh s (T t).size j ver off (s.rw j) x K:=(rfl)
theorem zja [zag]:s.freeze [] = s:=St.freeze_nil s
theorem zoM (j ver off e sz:Nat) (c:List PV) (x:PV):zeh s 1 j ver off ⟨ver,.sli e sz false c⟩ x K = zcH s.rw x (kk fun new fz=>new.length = 1∧off + new.length ≤ c.length∧j ∉ fz∧K ((s.freeze fz).row j ⟨ver,.sli e sz false (spl c off new)⟩)):=by
 simp only [zeh,Nat.one_pos,true_and,kk]
theorem zez (z j ver off:Nat) (bt:TypeId) (c:List PV) (x:PV):zeh s (z + 1) j ver off ⟨ver,.box bt c⟩ x K = zaX s.rw x (kk fun new=>new.length = z + 1∧off + new.length ≤ c.length∧allP s.rw new∧K (s.row j ⟨ver,.box bt (spl c off new)⟩)):=by
 simp only [zeh,Nat.zero_lt_succ,true_and,kk]
theorem zly [zag] (j ver off:Nat) (bt:TypeId) (c:List PV) (x:PV):zeh s 1 j ver off ⟨ver,.box bt c⟩ x K = zaX s.rw x (kk fun new=>new.length = 1∧off + new.length ≤ c.length∧allP s.rw new∧K (s.row j ⟨ver,.box bt (spl c off new)⟩)):=zez 0 j ver off bt c x
theorem zlz [zag] (j ver off:Nat) (bt:TypeId) (c:List PV) (x:PV):zeh s 2 j ver off ⟨ver,.box bt c⟩ x K = zaX s.rw x (kk fun new=>new.length = 2∧off + new.length ≤ c.length∧allP s.rw new∧K (s.row j ⟨ver,.box bt (spl c off new)⟩)):=zez 1 j ver off bt c x
theorem zB9 (rw:Nat→Row) (v:Value):zhM rw (.v v) = (v.oneCell' = true):=(rfl)
theorem zxs (rw:Nat→Row) (fr:Bool) (z:Nat) (c:List PV):zhM rw (.sl fr z c) = True:=(rfl)
theorem zoN (rw:Nat→Row) (fr:Bool) (c:List PV) (o:Nat):zhM rw (.eref fr c o) = True:=(rfl)
theorem zta (rw:Nat→Row) (f:FuncId) (c:List PV):zhM rw (.clo f c) = True:=(rfl)
theorem zmv (rw:Nat→Row) (j v:Nat):zhM rw (.own j v) = zi8 (rw j) v (kk True):=by simp [zhM,zi8,kk]
theorem ztb (rw:Nat→Row) (j v o:Nat):zhM rw (.ref j v o) = zgV (rw j) v (kk True):=by simp [zhM,zgV,kk]
theorem zlA [zag] (j ver off:Nat) (bt:TypeId) (c:List PV) (x:PV):zeh s 3 j ver off ⟨ver,.box bt c⟩ x K = zaX s.rw x (kk fun new=>new.length = 3∧off + new.length ≤ c.length∧allP s.rw new∧K (s.row j ⟨ver,.box bt (spl c off new)⟩)):=zez 2 j ver off bt c x
theorem zlB [zag] (j ver off:Nat) (bt:TypeId) (c:List PV) (x:PV):zeh s 4 j ver off ⟨ver,.box bt c⟩ x K = zaX s.rw x (kk fun new=>new.length = 4∧off + new.length ≤ c.length∧allP s.rw new∧K (s.row j ⟨ver,.box bt (spl c off new)⟩)):=zez 3 j ver off bt c x
def zjb (T:Tab) (rw:Nat→Row) (y:PV) (K:List PV→Prop):Prop:=slK rw y fun fr sz news=>sz = 1∧((∀ p ∈ news,isV p = true) ∨ (fr = true∧∀ p ∈ news,zqm p = true))∧K news
def zjc (T:Tab) (s:St) (d j ver e:Nat) (r:Row) (news:List PV) (K:St→Prop):Prop:=r.ver = ver∧match r.kind with
 | .nil=>news.length * (T e).bytes ≤ 140737488355328∧K (zcG s d j (.sli e 1 false news))
 | .sli e' sz' false c=>e' = e∧sz' = 1∧(c.length + news.length) * (T e).bytes ≤ 140737488355328∧K (zcG s d j (.sli e 1 false (c ++ news)))
 | _=>False
def zEW (T:Tab) (s:St) (d e:Nat) (x:PV) (news:List PV) (K:St→Prop):Prop:=match x with
 | .v u=>zdA u = true∧news.length * (T e).bytes ≤ 140737488355328∧K (zcI s d (.sli e 1 false news) (fun v=>.own d v))
 | .own j ver=>zjc T s d j ver e (s.rw j) news K
 | _=>False
def zF0 (T:Tab) (s:St) (d:Nat) (kd:TK) (z:Nat) (x y:PV) (K:St→Prop):Prop :=
 0 < z∧match kd with
 | .sli e=>0 < (T e).size∧0 < (T e).bytes∧slK s.rw y fun fr sz news=>sz = (T e).size∧((∀ p ∈ news,isV p = true) ∨ (fr = true∧∀ p ∈ news,zqm p = true)) ∧
  (match x with
  | .v u=>zdA u = true∧news.length * (T e).bytes ≤ 140737488355328∧K (zcI s d (.sli e (T e).size false news) (fun v=>.own d v))
  | .own k ver=>(s.rw k).ver = ver∧(match (s.rw k).kind with
   | .nil=>news.length * (T e).bytes ≤ 140737488355328∧K (zcG s d k (.sli e (T e).size false news))
   | .sli e' sz' false c=>e' = e∧sz' = (T e).size∧(c.length + news.length) * (T e).bytes ≤ 140737488355328∧K (zcG s d k (.sli e (T e).size false (c ++ news)))
   | _=>False)
  | _=>False)
 | _=>False
theorem zoO (d:Nat) (t:TypeId) (x y:PV):zjC T s d t t x y K = zF0 T s d (T t).k (T t).size x y K:=propext ⟨fun h=>h.2,fun h=>⟨rfl,h⟩⟩
theorem ztc {d e:Nat} (x y:PV) (h2:(T e).size = 1) (h3:0 < (T e).bytes):zF0 T s d (.sli e) 1 x y K = zjb T s.rw y (kk fun news=>zEW T s d e x news (kk K)):=by
 unfold zF0 zjb
 simp only [h2,h3,true_and,kk,Nat.one_pos]
 unfold zEW zjc
 cases x <;> rfl
theorem ztd (d e j ver:Nat) (news:List PV):zEW T s d e (.own j ver) news K = zjc T s d j ver e (s.rw j) news K:=(rfl)
theorem zte (d e:Nat) (news:List PV):zEW T s d e (.v (.slice none 0 0)) news K = (news.length * (T e).bytes ≤ 140737488355328∧K (zcI s d (.sli e 1 false news) (fun v=>.own d v))):=by simp [zEW,zdA]
theorem zlC (d j ver e:Nat) (c news:List PV):zjc T s d j ver e ⟨ver,.sli e 1 false c⟩ news K = ((c.length + news.length) * (T e).bytes ≤ 140737488355328∧K (zcG s d j (.sli e 1 false (c ++ news)))):=by simp [zjc]
theorem zlD (d j ver e:Nat) (news:List PV):zjc T s d j ver e ⟨ver,.nil⟩ news K = (news.length * (T e).bytes ≤ 140737488355328∧K (zcG s d j (.sli e 1 false news))):=by simp [zjc]
variable {Kc:List PV→Prop}
theorem zxt (c:List PV) (h:∀ p ∈ c,isV p = true) (fr:Bool):zjb T rw (.sl fr 1 c) Kc = Kc c:=by
 have e:(∀ p ∈ c,isV p = true) = True:=eq_true h
 simp only [zjb,slK,e,true_or,true_and]
theorem zxu [zag] (xs:List Int) (fr:Bool):zjb T rw (.sl fr 1 (iL xs)) Kc = Kc (iL xs):=zxt _ (by simpa using zwc xs) fr
theorem zxv [zag] (k:IntKind) (xs:List Int) (fr:Bool):zjb T rw (.sl fr 1 (kL k xs)) Kc = Kc (kL k xs):=zxt _ (by simpa using zEr k xs) fr
theorem zxw [zag] (xs:List ByteArray) (fr:Bool):zjb T rw (.sl fr 1 (sL xs)) Kc = Kc (sL xs):=zxt _ (by simpa using zEs xs) fr
theorem ztf [zag] (xs:List (List Int)):zjb T rw (.sl true 1 (iLL xs)) Kc = Kc (iLL xs):=by
 have:∀ p ∈ iLL xs,zqm p = true:=by simpa using zz8 xs
 simp only [zjb,slK,true_and,true_or,eq_true this,or_true]
def zuC (c:List PV):Prop:=∀ p ∈ c,zqm p = true
def zuD (r:Row) (ver:Nat) (K:List PV→Prop):Prop:=r.ver = ver∧match r.kind with | .nil=>K [] | .sli _ sz _ c=>sz = 1∧zuC c∧K c | _=>False
theorem zoP (j ver:Nat):zjb T rw (.own j ver) Kc = zuD (rw j) ver Kc:=by
 unfold zjb slK zuD
 dsimp only
 generalize (rw j).kind = kd
 cases kd with
 | sli e sz fz c =>
   dsimp only
   refine propext ⟨fun ⟨a,b,h,d⟩=>⟨a,b,?_,d⟩,fun ⟨a,b,h,d⟩=>⟨a,b,.inr ⟨rfl,h⟩,d⟩⟩
   rcases h with h | h
   ·intro p hp
    have:=h p hp
    cases p <;> simp [isV] at this
    exact this
   ·exact h.2
 | nil=>simp
 | _=>simp
theorem zoQ (ver e:Nat) (fz:Bool) (c:List PV):zuD ⟨ver,.sli e 1 fz c⟩ ver Kc = (zuC c∧Kc c):=by simp [zuD]
theorem zoR (ver:Nat):zuD ⟨ver,.nil⟩ ver Kc = Kc []:=by simp [zuD]
theorem ztg:zuC [] = True:=by simp [zuC]
theorem zxx (xs:List Int):zuC (iL xs) = True:=by simp [zuC,iL,zqm,Value.oneCell']
theorem zxy (k:IntKind) (xs:List Int):zuC (kL k xs) = True:=by simp [zuC,kL,zqm,Value.oneCell']
theorem zxz (xs:List ByteArray):zuC (sL xs) = True:=by simp [zuC,sL,zqm,Value.oneCell']
theorem zxA (xs:List Bool):zuC (bL xs) = True:=eq_true fun p hp=>by
 simp only [bL,List.mem_map] at hp
 obtain ⟨x,_,rfl⟩:=hp
 rfl
theorem zth (xs:List (List Int)):zuC (iLL xs) = True:=by simp [zuC,iLL,zqm]
theorem zoS (j:Nat):[j].Nodup = True:=by simp
theorem zoT (i j:Nat):[i,j].Nodup = (i ≠ j):=by simp
theorem zxB (j:Nat):(j < lent) = (j < 1000000):=(rfl)
theorem zEX (v u:Value) {Kn:List Nat→Prop}:zpi rw (.v v) (.im (.v u)) Kn = (PV.v u = PV.v v∧Kn []):=(rfl)
def zoU (r:Row) (j ver e sz:Nat) (c:List PV) (K:List Nat→Prop):Prop:=j < lent∧r.ver = ver∧(match r.kind with
 | .nil=>c = []∧K []
 | .sli e' sz' false c'=>e' = e∧sz' = sz∧c' = c∧K [j]
 | _=>False)
theorem zxC (j ver e sz:Nat) (c:List PV) {Kn:List Nat→Prop}:zpi rw (.own j ver) (.fr e sz c) Kn = zoU (rw j) j ver e sz c Kn:=(rfl)
theorem zlE (j ver e sz:Nat) (c c':List PV) {Kn:List Nat→Prop} (h:j < lent):zoU ⟨ver,.sli e sz false c'⟩ j ver e sz c Kn = (c' = c∧Kn [j]):=by simp [zoU,h]
theorem zti {t:Nat} {rv:RV}:zuE T s [.tmp t] rv = zpi s.rw (s.sl t) rv List.Nodup:=(rfl)
theorem zoV {a:Nat} {t:TypeId} {rv:RV}:zuE T s [.cell a t] rv = zqn s.rw (s.sl a) (kk fun m c off=>ldK T t m c off (kk fun p=>zpi s.rw p rv List.Nodup)):=(rfl)
theorem ztj {r1 r2:ResultVar} {rv:RV}:zuE T s [r1,r2] rv = zvO T s [r1,r2] (kk fun ps=>zpi s.rw (.tup ps) rv List.Nodup):=(rfl)
theorem zlF {r1 r2 r3:ResultVar} {rv:RV}:zuE T s [r1,r2,r3] rv = zvO T s [r1,r2,r3] (kk fun ps=>zpi s.rw (.tup ps) rv List.Nodup):=(rfl)
theorem ztk (Kr:List PV→Prop):zvO T s [] (kk Kr) = Kr []:=(rfl)
theorem ztl (t:Nat) (rs:List ResultVar) (Kr:List PV→Prop):zvO T s (.tmp t :: rs) (kk Kr) = evK (s.sl t) (kk fun p=>zvO T s rs (kk fun ps=>Kr (p :: ps))):=(rfl)
theorem zoW (a:Nat) (t:TypeId) (rs:List ResultVar) (Kr:List PV→Prop):zvO T s (.cell a t :: rs) (kk Kr) = zqn s.rw (s.sl a) (kk fun m c off=>ldK T t m c off (kk fun p=>zvO T s rs (kk fun ps=>Kr (p :: ps)))):=(rfl)
theorem ztm (e sz:Nat) (c:List PV) {Kn:List Nat→Prop}:zpi rw (.v (.slice none 0 0)) (.fr e sz c) Kn = (c = []∧Kn []):=by simp [zpi,zkx,zdA]
theorem ztn (e sz:Nat) (c:List PV) {Kn:List Nat→Prop}:zxQ rw (.v (.slice none 0 0)) (.fr e sz c) Kn = (c = []∧Kn []):=by simp [zxQ,zkx,zdA]
theorem zto (e sz:Nat) (c:List PV) {Kn:List Nat→Prop}:zkx rw (.v (.slice none 0 0)) (.fr e sz c) Kn = (c = []∧Kn []):=by simp [zkx,zdA]
theorem zlG [zag] (d e sz:Nat) (y:Value) (c:List PV):zak s d (.tup [.ag [.fr e sz c],.im (.v y)]) = (s.row d ⟨(s.rw d).ver + 1,.sli e sz false c⟩).put (some d) (.tup [.ag [.own d ((s.rw d).ver + 1)],.v y]):=by
 unfold zak
 simp [zbr,zb1,leaves,zau,zaV,zbI,zbw,zba,zaj,St.row,zgx]
 rfl
theorem zlH [zag] (d e sz:Nat) (x y:Value) (c:List PV):zak s d (.tup [.ag [.im (.v x),.fr e sz c],.im (.v y)]) = (s.row d ⟨(s.rw d).ver + 1,.sli e sz false c⟩).put (some d) (.tup [.ag [.v x,.own d ((s.rw d).ver + 1)],.v y]):=by
 unfold zak
 simp [zbr,zb1,leaves,zau,zaV,zbI,zbw,zba,zaj,St.row,zgx]
 rfl
theorem zoX [zag] (d e sz:Nat) (y:Value) (c:List PV):zak s d (.tup [.ag [.fr e sz c],.im (.v y)]) = (s.row d ⟨(s.rw d).ver + 1,.sli e sz false c⟩).put (some d) (.tup [.ag [.own d ((s.rw d).ver + 1)],.v y]):=by
 unfold zak
 simp [zbr,zb1,leaves,zau,zaV,zbI,zbw,zba,zaj,St.row,zgx]
 rfl
theorem zdp (d:Nat) (v:Value):zak s d (.im (.v v)) = s.put (some d) (.v v):=by
 unfold zak
 simp [leaves,zau,zaV,zbw,zgx]
theorem zAe [zag] {f:FuncId} {raw lent:List PV} {k d:Nat} {x:Value} {r:Row} {Ke:Ent→St→Prop} {Ka:RV→Prop} {us:Dm s} {u:Dm Ke} (rd:List Nat) (h:∀ s':St,s'.rw k = s.rw k→(∀ a ∈ rd,s'.rw a = s.rw a)→∀ K':St→Prop,K' ((s'.row k r).put (some d) (.v x))→askG P s' f raw (some d) K') (hd:d % 1000 ≠ k % 1000)
 (hk:Ke ⟨rd,.ids [d,k]⟩ ((s.row k r).put (some d) (.v x))):zhY P f lent Ka (zEd P f raw d (kk s us) (kk Ke u)) :=
 zAd (x:=.im (.v x)) (r:=r) rd (fun s' h1 h2 K' hk'=>h s' h1 h2 K' (by rw [zdp] at hk';exact hk')) hd (by rw [zdp];exact hk)
theorem zii (d e sz:Nat) (c:List PV):zak s d (.fr e sz c) = (s.row d ⟨(s.rw d).ver + 1,.sli e sz false c⟩).put (some d) (.own d ((s.rw d).ver + 1)):=by
 unfold zak
 simp [leaves,zau,zaV,zbw,zaj,St.row]
 rfl
theorem zoY [zag] (d e sz:Nat) (c:List PV):zak s d (.ag [.fr e sz c]) = (s.row d ⟨(s.rw d).ver + 1,.sli e sz false c⟩).put (some d) (.ag [.own d ((s.rw d).ver + 1)]):=by
 unfold zak
 simp [zb1,leaves,zau,zaV,zbI,zba,zbw,zaj,St.row]
 rfl
theorem zoZ [zag] (d e sz:Nat) (x:Value) (c:List PV):zak s d (.ag [.im (.v x),.fr e sz c]) = (s.row d ⟨(s.rw d).ver + 1,.sli e sz false c⟩).put (some d) (.ag [.v x,.own d ((s.rw d).ver + 1)]):=by
 unfold zak
 simp [zb1,leaves,zau,zaV,zbI,zba,zbw,zaj,St.row,zgx]
 rfl
theorem zo0 [zag] (d e sz e2 sz2:Nat) (x y:Value) (c c2:List PV):zak s d (.ag [.im (.v x),.fr e sz c,.im (.v y),.fr e2 sz2 c2]) =
 ((s.row (d + 1000) ⟨(s.rw (d + 1000)).ver + 1,.sli e2 sz2 false c2⟩).row d ⟨(s.rw d).ver + 1,.sli e sz false c⟩).put (some d) (.ag [.v x,.own d ((s.rw d).ver + 1),.v y,.own (d + 1000) ((s.rw (d + 1000)).ver + 1)]):=by
 unfold zak
 simp [zb1,leaves,zau,zaV,zbI,zba,zbw,zaj,St.row,zgx]
 rfl
theorem zo1 [zag] (d:Nat) (x y:Value):zak s d (.tup [.im (.v x),.im (.v y)]) = s.put (some d) (.tup [.v x,.v y]):=by
 unfold zak
 simp [zbr,leaves,zau,zaV,zbI,zba,zbw,zaj,St.row,zgx]
theorem zo2 [zag] (d e sz:Nat) (c:List PV) (y:Value):zak s d (.tup [.fr e sz c,.im (.v y)]) = (s.row d ⟨(s.rw d).ver + 1,.sli e sz false c⟩).put (some d) (.tup [.own d ((s.rw d).ver + 1),.v y]):=by
 unfold zak
 simp [zbr,leaves,zau,zaV,zbI,zba,zbw,zaj,St.row,zgx]
 rfl
theorem imm_ag [zag] (l:List RV):(RV.ag l).imm = .ag (l.map RV.imm):=RV.imm_ag l
theorem imm_tup [zag] (l:List RV):(RV.tup l).imm = .tup (l.map RV.imm):=RV.imm_tup l
theorem zxD (ps:List PV) (l:List RV) {Kn:List Nat→Prop}:zpi rw (.ag ps) (.ag l) Kn = zvP (zxQ rw) ps l Kn:=(rfl)
theorem ztp (ps:List PV) (l:List RV) {Kn:List Nat→Prop}:zpi rw (.tup ps) (.tup l) Kn = zvP (zxQ rw) ps l Kn:=(rfl)
theorem zxE (ps:List PV) (l:List RV) {Kn:List Nat→Prop}:zxQ rw (.ag ps) (.ag l) Kn = zvP (zkx rw) ps l Kn:=(rfl)
theorem ztq (f:PV→RV→(List Nat→Prop)→Prop) {Kn:List Nat→Prop}:zvP f [] [] Kn = Kn []:=(rfl)
theorem zo3 (f:PV→RV→(List Nat→Prop)→Prop) (p:PV) (ps:List PV) (r:RV) (rs:List RV) {Kn:List Nat→Prop}:zvP f (p :: ps) (r :: rs) Kn = f p r (kk fun a=>zvP f ps rs (kk fun b=>Kn (a ++ b))):=(rfl)
theorem zCa (v u:Value) {Kn:List Nat→Prop}:zxQ rw (.v v) (.im (.v u)) Kn = (PV.v u = PV.v v∧Kn []):=(rfl)
theorem zlI (e e2:Nat) (rows:List (List PV)) {Kn:List Nat→Prop}:zkx rw (.v (.slice none 0 0)) (.tb e e2 rows) (kk Kn) = (rows = []∧Kn []):=by simp [zkx,zdA,kk]
theorem zCb (v u:Value) {Kn:List Nat→Prop}:zkx rw (.v v) (.im (.v u)) Kn = (PV.v u = PV.v v∧Kn []):=(rfl)
theorem ztr (j ver e sz:Nat) (c:List PV) {Kn:List Nat→Prop}:zxQ rw (.own j ver) (.fr e sz c) Kn = zoU (rw j) j ver e sz c Kn:=(rfl)
theorem zts (j ver e sz:Nat) (c:List PV) {Kn:List Nat→Prop}:zkx rw (.own j ver) (.fr e sz c) Kn = zoU (rw j) j ver e sz c Kn:=(rfl)
theorem zCc (v:Value):(RV.im (.v v)).imm = .v v:=by simp [RV.imm,zgx]
theorem zCd (e sz:Nat) (c:List PV):(RV.fr e sz c).imm = .sl true sz c:=by simp [RV.imm]
theorem ztt (rw:Nat→Row) (n:Nat) (k:IntKind) (x:Int):zcn rw (n + 1) (.v (.int k x)) = .v (.int k x):=(rfl)
theorem zo4 (rw:Nat→Row) (n:Nat) (x:Bool):zcn rw (n + 1) (.v (.bool x)) = .v (.bool x):=(rfl)
theorem zjd (rw:Nat→Row) (n:Nat) (x:ByteArray):zcn rw (n + 1) (.v (.string x)) = .v (.string x):=(rfl)
theorem ztu (rw:Nat→Row) (n:Nat):zcn rw (n + 1) (.v (.slice none 0 0)) = .sl false 1 []:=(rfl)
theorem zxF (rw:Nat→Row) (n:Nat) (fr:Bool) (sz:Nat) (c:List PV):zcn rw (n + 1) (.sl fr sz c) = .sl false sz c:=(rfl)
theorem zxG (rw:Nat→Row) (n:Nat) (c:List PV):zcn rw (n + 1) (.ag c) = .ag (c.map (zcn rw n)):=(rfl)
theorem zo5 (rw:Nat→Row) (n:Nat) (fr:Bool) (c:List PV) (o:Nat):zcn rw (n + 1) (.eref fr c o) = .eref false c o:=(rfl)
def zje (rw:Nat→Row) (n:Nat) (r:Row) (ver off:Nat):PV:=if r.ver = ver then (match r.kind with | .box _ c=>.eref false (c.map (zcn rw n)) off | .sli _ _ _ c=>.eref false c off | _=>.junk) else .junk
theorem ztv (rw:Nat→Row) (n j ver off:Nat):zcn rw (n + 1) (.ref j ver off) = zje rw n (rw j) ver off:=(rfl)
theorem zjf (rw:Nat→Row) (n ver off:Nat) (t:TypeId) (c:List PV):zje rw n ⟨ver,.box t c⟩ ver off = .eref false (c.map (zcn rw n)) off:=by simp [zje]
theorem zjg (rw:Nat→Row) (n ver off e z:Nat) (fz:Bool) (c:List PV):zje rw n ⟨ver,.sli e z fz c⟩ ver off = .eref false c off:=by simp [zje]
theorem ztw (rw:Nat→Row) (n:Nat) (f:FuncId) (c:List PV):zcn rw (n + 1) (.clo f c) = .clo f (c.map (zcn rw n)):=(rfl)
def zfL (rw:Nat→Row) (n:Nat) (r:Row) (ver:Nat):PV:=if r.ver = ver then (match r.kind with | .nil=>.sl false 1 [] | .sli _ sz _ c=>.sl false sz c | .tab _ c=>.sl false 1 (c.map (zkC rw)) | _=>.junk) else .junk
theorem ztx (rw:Nat→Row) (n j ver:Nat):zcn rw (n + 1) (.own j ver) = zfL rw n (rw j) ver:=(rfl)
theorem zjh (rw:Nat→Row) (n:Nat) (ver e:Nat) (c:List PV):zfL rw n ⟨ver,.tab e c⟩ ver = .sl false 1 (c.map (zkC rw)):=by simp [zfL]
theorem zji (rw:Nat→Row) (n:Nat) (ver e sz:Nat) (fz:Bool) (c:List PV):zfL rw n ⟨ver,.sli e sz fz c⟩ ver = .sl false sz c:=by simp [zfL]
theorem zjj (rw:Nat→Row) (n:Nat) (ver:Nat):zfL rw n ⟨ver,.nil⟩ ver = .sl false 1 []:=by simp [zfL]
end
def zxH:PV→Prop | .sl _ sz c=>c.length ≤ 9223372036854775807 * sz | _=>True
def zjk:PV→Prop | .sl _ sz c=>c.length ≤ 9223372036854775807 * sz∧∀ p ∈ c,zxH p | .ag c=>∀ p ∈ c,zxH p | .eref _ c _=>∀ p ∈ c,zxH p | _=>True
def zmw:PV→Prop | .sl _ sz c=>c.length ≤ 9223372036854775807 * sz∧∀ p ∈ c,zjk p | .ag c=>∀ p ∈ c,zjk p | .eref _ c _=>∀ p ∈ c,zjk p | .clo _ c=>∀ p ∈ c,zjk p | _=>True
def zxI:List PV→Prop | []=>True | p :: ps=>zmw p∧zxI ps
theorem zmx {w:World} {E:Env} {lo:Nat} {p:PV} {x:Value} (h:Rep w E lo p x):zxH p:=by
 cases h <;> try trivial
 next sz len cap cells a cs hl hc hm hr hh =>
  show cells.length ≤ 9223372036854775807 * sz
  rw [hl]
  exact Nat.mul_le_mul_right _ (Nat.le_trans hc hm)
theorem zij [zag] {w:World} {E:Env} {lo:Nat} {p:PV} {x:Value} (h:Rep w E lo p x):zjk p:=by
 cases h <;> try trivial
 case sl fr sz len cap cells a cs hl hc hm hr hh =>
  refine ⟨?_,fun p hp=>?_⟩
  ·rw [hl];exact Nat.mul_le_mul_right _ (Nat.le_trans hc hm)
  ·obtain ⟨i,hi,rfl⟩:=List.getElem_of_mem hp;exact zmx (hh i hi)
 case eref fr cells off b o cs hr hh=>intro p hp;obtain ⟨i,hi,rfl⟩:=List.getElem_of_mem hp;exact zmx (hh i hi)
 case ag cells vs hl hh=>intro p hp;obtain ⟨i,hi,rfl⟩:=List.getElem_of_mem hp;exact zmx (hh i hi (by omega))
theorem zAf [zag] {w:World} {E:Env} {lo:Nat} {p:PV} {x:Value} (h:Rep w E lo p x):zmw p:=by
 cases h <;> try trivial
 case sl fr sz len cap cells a cs hl hc hm hr hh =>
  refine ⟨?_,fun p hp=>?_⟩
  ·rw [hl];exact Nat.mul_le_mul_right _ (Nat.le_trans hc hm)
  ·obtain ⟨i,hi,rfl⟩:=List.getElem_of_mem hp;exact zij (hh i hi)
 case eref fr cells off b o cs hr hh=>intro p hp;obtain ⟨i,hi,rfl⟩:=List.getElem_of_mem hp;exact zij (hh i hi)
 case ag cells vs hl hh=>intro p hp;obtain ⟨i,hi,rfl⟩:=List.getElem_of_mem hp;exact zij (hh i hi (by omega))
 case clo f cells vs hl hh=>intro p hp;obtain ⟨i,hi,rfl⟩:=List.getElem_of_mem hp;exact zij (hh i hi (by omega))
theorem zqD [zag] {w:World} {E:Env} {lo:Nat} {ps:List PV} {vs:List Value} (h:zbf w E lo ps vs):zxI ps:=by
 have:∀ p ∈ ps,zmw p:=by
  intro p hp
  obtain ⟨i,hi,rfl⟩:=List.getElem_of_mem hp
  exact zAf (h.2 i hi (by rw [← h.1];exact hi))
 clear h
 induction ps with
 | nil=>trivial
 | cons p ps ih=>exact ⟨this p (by simp),ih fun q hq=>this q (by simp [hq])⟩
theorem zaC:zxI [] = True:=(rfl)
theorem zav (p:PV) (ps:List PV):zxI (p :: ps) = (zmw p∧zxI ps):=(rfl)
theorem zcl (x:Value):zmw (.v x) = True:=(rfl)
theorem zby (x:Value):zjk (.v x) = True:=(rfl)
theorem za5 (fr:Bool) (xs:List Int):zjk (.sl fr 1 (iL xs)) = (xs.length ≤ 9223372036854775807):=by simp [zjk,zxH,iL]
theorem zaL (fr:Bool) (xs:List Int):zmw (.sl fr 1 (iL xs)) = (xs.length ≤ 9223372036854775807):=by simp [zmw,zjk,iL]
theorem zaT (x y:PV):zmw (.ag [x,y]) = (zjk x∧zjk y):=by simp [zmw]
theorem AC.go [zag] {f:FuncId} {fn:Func} {c:Code} {rs:List ResultVar} {args:List PV} {rv:RV} (hT:T.Ok P) (hm:P.follows .mixedOrders = true) (hf:P.funcs[f]? = some fn) (hname:(fn.name == "runtime.NumGoroutine") = false)
 (hb:fn.body = some c) (hr:fn.results.toList = rs) (hfit:(fits fn.ntmps c && decide (args.length ≤ fn.ntmps) && decide (fn.results.toList.length ≤ 4)) = true) (h:zxI args→cwp P T c (zFJ T rs rv) (St.init args)):AC P f args rv:=by
 subst hr
 refine ⟨⟨fn,hf,hname,by rw [hb];rfl⟩,fun w vals hphi hv=>?_⟩
 exact (AC.of hT hm hf hname hb hfit (h (zqD hv))).2 w vals hphi hv
theorem AM.go [zag] {f:FuncId} {fn:Func} {c:Code} {rs:List ResultVar} {args:List PV} {ins:List LR} {outs:List (List PV)} {x:Value} (hT:T.Ok P) (hm:P.follows .mixedOrders = true) (hf:P.funcs[f]? = some fn) (hname:(fn.name == "runtime.NumGoroutine") = false)
 (hb:fn.body = some c) (hr:fn.results.toList = rs) (hfit:(fits fn.ntmps c && decide (args.length ≤ fn.ntmps) && decide (fn.results.toList.length ≤ 4)) = true) (hi:∀ r ∈ ins,zbB r.c) (ho:∀ c ∈ outs,zbB c) (hlen:outs.length = ins.length)
 (h:(∀ r ∈ ins,r.c.length ≤ 9223372036854775807 * r.sz)→cwp P T c (zFI T rs ins outs x) (St.initM args ins)):AM P f args ins outs x:=by
 subst hr
 exact AM.of hT hm hf hname hb hfit hi ho hlen h
theorem zbo [zag] (xs:List Int):zbB (iL xs):=by have:=zwc xs;unfold zbB;rw [this];trivial
theorem zgW:∀ c ∈ ([]:List (List PV)),zbB c:=fun c h=>by cases h
theorem zfM {a:List PV} {l:List (List PV)} (h1:zbB a) (h2:∀ c ∈ l,zbB c):∀ c ∈ a :: l,zbB c:=fun c hc=>by
 rcases List.mem_cons.1 hc with rfl | hc
 ·exact h1
 ·exact h2 c hc
theorem zgX:∀ r ∈ ([]:List LR),zbB r.c:=fun c h=>by cases h
theorem zfN {e sz:Nat} {a:List PV} {l:List LR} (h1:zbB a) (h2:∀ r ∈ l,zbB r.c):∀ r ∈ (⟨e,sz,a⟩:LR) :: l,zbB r.c:=fun c hc=>by
 rcases List.mem_cons.1 hc with rfl | hc
 ·exact h1
 ·exact h2 c hc
theorem zik (args:List PV) (ins:List LR) (i:Nat):(St.initM args ins).sl i = args.getD i .junk:=(rfl)
theorem zil (args:List PV) (ins:List LR) (i:Nat):(St.initM args ins).rw i = inR ins i:=(rfl)
theorem zty (ins:List LR) (k:Nat) (h:k < 1000000):inR ins k = ⟨0,.dead⟩:=by
 unfold inR;rw [if_neg (by show ¬ (1000000 ≤ k);omega)]
theorem zAg [zag] (e sz:Nat) (c:List PV) (l:List LR):inR (⟨e,sz,c⟩ :: l) 1000000 = ⟨1,.sli e sz false c⟩:=zpw (ins:=⟨e,sz,c⟩ :: l) (i:=0) rfl
theorem zAh [zag] (r:LR) (e sz:Nat) (c:List PV) (l:List LR):inR (r :: ⟨e,sz,c⟩ :: l) 1000001 = ⟨1,.sli e sz false c⟩:=zpw (ins:=r :: ⟨e,sz,c⟩ :: l) (i:=1) rfl
theorem ztz (rs:List ResultVar) (ins:List LR) (outs:List (List PV)) (x:Value):zFI T rs ins outs x .ret s = zCV T s rs ins outs x:=(rfl)
theorem zo6 (rs:List ResultVar) (ins:List LR) (outs:List (List PV)) (x:Value):zFI T rs ins outs x .norm s = zCV T s rs ins outs x:=(rfl)
theorem ztA (r:Nat) (ins:List LR) (outs:List (List PV)) (x:Value):zCV T s [.tmp r] ins outs x = (zqF s.rw 0 ins outs∧s.sl r = .v x):=(rfl)
theorem zo7 (ins:List LR) (outs:List (List PV)) (x:Value):zCV T s [] ins outs x = (zqF s.rw 0 ins outs∧x = .tuple #[]):=(rfl)
theorem zxJ (rw:Nat→Row) (e sz:Nat) (a c:List PV):zqF rw 0 [⟨e,sz,a⟩] [c] = (rw 1000000 = ⟨1,.sli e sz false c⟩):=by
 show (rw 1000000 = ⟨1,.sli e sz false c⟩∧True) = _
 rw [and_true]
theorem zxK (rw:Nat→Row) (e sz e' sz':Nat) (a c a' c':List PV):zqF rw 0 [⟨e,sz,a⟩,⟨e',sz',a'⟩] [c,c'] = (rw 1000000 = ⟨1,.sli e sz false c⟩∧rw 1000001 = ⟨1,.sli e' sz' false c'⟩):=by
 show (rw 1000000 = ⟨1,.sli e sz false c⟩∧rw 1000001 = ⟨1,.sli e' sz' false c'⟩∧True) = _
 rw [and_true]
theorem zmy (j v e sz:Nat) (a c:List PV):s.wrote [(j,v)] [⟨e,sz,a⟩] [c] = s.row j ⟨v,.sli e sz false c⟩:=by
 unfold St.wrote St.row zds
 congr 1
 funext k
 by_cases h:k = j
 ·subst h;simp
 ·have:(j == k) = false:=by simp;exact fun e=>h e.symm
  simp [h,this]
theorem zmz [zag] (j v e sz j' v' e' sz':Nat) (a c a' c':List PV) (hj:j ≠ j'):s.wrote [(j,v),(j',v')] [⟨e,sz,a⟩,⟨e',sz',a'⟩] [c,c'] = (s.row j ⟨v,.sli e sz false c⟩).row j' ⟨v',.sli e' sz' false c'⟩:=by
 have hn:([(j,v),(j',v')].map (·.1)).Nodup:=by simpa using hj
 unfold St.wrote St.row
 congr 1
 funext k
 show zds s.rw [(j,v),(j',v')] [⟨e,sz,a⟩,⟨e',sz',a'⟩] [c,c'] k = if k = j' then ⟨v',.sli e' sz' false c'⟩ else if k = j then ⟨v,.sli e sz false c⟩ else s.rw k
 by_cases h:k = j'
 ·subst h
  rw [if_pos rfl]
  exact zjB hn (i:=1) (j:=(k,v')) (r:=⟨e',sz',a'⟩) (c:=c') rfl rfl rfl
 ·rw [if_neg h]
  by_cases h':k = j
  ·subst h'
   rw [if_pos rfl]
   exact zjB hn (i:=0) (j:=(k,v)) (r:=⟨e,sz,a⟩) (c:=c) rfl rfl rfl
  ·rw [if_neg h']
   exact zlT (by simp [h,h'])
theorem AG.go [zag] {f:FuncId} {fn:Func} {c:Code} {rs:List ResultVar} {args:List PV} {R0:Nat→Row} {post:(Nat→Row)→PV→Prop} (hT:T.Ok P) (hm:P.follows .mixedOrders = true) (hf:P.funcs[f]? = some fn) (hname:(fn.name == "runtime.NumGoroutine") = false)
 (hb:fn.body = some c) (hr:fn.results.toList = rs) (hfit:(fits fn.ntmps c && decide (args.length ≤ fn.ntmps) && decide (fn.results.toList.length ≤ 4)) = true)
 (h:zxI args→(∀ k,zhD (R0 k).kind)→∀ s:St,(∀ i,s.sl i = args.getD i .junk)→(∀ k,s.rw k = R0 k)→cwp P T c (zxP T rs post) s):AG P f args R0 post:=by
 subst hr
 refine ⟨⟨fn,hf,hname,by rw [hb];rfl⟩,fun w M E vals hw hR hv=>?_⟩
 exact (AG.of hT hm hf hname hb hfit (fun hl=>h (zqD hv) hl _ (fun _=>rfl) (fun _=>rfl))).2 w M E vals hw hR hv
theorem ztB (rs:List ResultVar) (post:(Nat→Row)→PV→Prop):zxP T rs post .ret s = zxO T s rs post:=(rfl)
theorem zo8 (rs:List ResultVar) (post:(Nat→Row)→PV→Prop):zxP T rs post .norm s = zxO T s rs post:=(rfl)
theorem ztC (r:Nat) (post:(Nat→Row)→PV→Prop):zxO T s [.tmp r] post = post s.rw (s.sl r):=(rfl)
theorem zo9 (post:(Nat→Row)→PV→Prop):zxO T s [] post = post s.rw (.tup []):=(rfl)
theorem zpa (a:Nat) (t:TypeId) (post:(Nat→Row)→PV→Prop):zxO T s [.cell a t] post = zqn s.rw (s.sl a) (kk fun m c off=>ldK T t m c off (kk fun p=>post s.rw p)):=(rfl)
theorem ztD (r r2:Nat) (post:(Nat→Row)→PV→Prop):zxO T s [.tmp r,.tmp r2] post = post s.rw (.tup [s.sl r,s.sl r2]):=(rfl)
theorem zap {n:Int} (h:-9223372036854775808 ≤ n) (h2:n ≤ 9223372036854775807):IntKind.i64.wrap n = n:=by
 simp [IntKind.wrap,IntKind.bits,IntKind.signed]
 omega
section
variable {Kp:PV→Prop}
theorem zjl [zag] (k:Nat) (p:List Nat) {t:TypeId} (o:Nat) (h0:(T t).k.agg = false) (h1:0 < (T t).size):ldK T t .asis (zax k p) o Kp = (o < p.length∧Kp (.own (sid k (p.getD o 0)) 1)):=by
 have:=zgU (T:=T) (Kp:=Kp) (fun j=>PV.own (sid k j) 1) 0 p (t:=t) (m:=.asis) o (fun j=>.own (sid k j) 1) (fun _=>rfl) h0 h1
 exact this
theorem zFG (k:Nat) (p:List Nat) (i j:Nat):spl (zax k p) i [.own (sid k j) 1] = zax k (p.set i j):=by
 show (zax k p).set i (.own (sid k j) 1) = _
 unfold zax;rw [List.map_set]
theorem zAi (k:Nat) (p:List Nat) (j:Nat):zax k p ++ [.own (sid k j) 1] = zax k (p ++ [j]):=by simp [zax]
theorem zgi (k v e e2:Nat) (p:List Nat) (rows:List (List PV)):(s.tabbed k v e e2 p rows).sl = s.sl:=(rfl)
theorem zeZ [zag] (k v e e2:Nat) (p:List Nat) (rows:List (List PV)):(s.tabbed k v e e2 p rows).rw k = ⟨v,.tab e (zax k p)⟩:=zgr
theorem zgj [zag] (k v e e2:Nat) (p:List Nat) (rows:List (List PV)) (j:Nat) (h:(j % 1000 == k % 1000) = false):(s.tabbed k v e e2 p rows).rw j = s.rw j:=by
 have h:=beq_eq_false_iff_ne.1 h
 refine zg1 (fun e=>h (by rw [e])) fun x _ e=>h ?_
 rw [e,zbq];omega
theorem zpb (k v:Nat) (dst:Option Nat):TR.self.next s k v dst K = K (s.put dst (.own k v)):=(rfl)
theorem zlJ (k v:Nat) (dst:Option Nat) (x:Value):(TR.selfx x).next s k v dst K = K (s.put dst (.tup [.own k v,.v x])):=(rfl)
theorem zxL (k v d:Nat) (r:RV):(TR.rv r).next s k v (some d) K = (d % 1000 ≠ k % 1000∧K (zak s d r)):=(rfl)
theorem zpc (k v:Nat) (r:RV):(TR.rv r).next s k v none K = K s:=(rfl)
theorem zim (args:List PV) (e e2:Nat) (rows:List (List PV)) (i:Nat):(St.initT args e e2 rows).sl i = args.getD i .junk:=(rfl)
theorem zin (args:List PV) (e e2:Nat) (rows:List (List PV)) (i:Nat):(St.initT args e e2 rows).rw i = inT e e2 rows i:=(rfl)
theorem zmA [zag] (e e2:Nat) (rows:List (List PV)) (k:Nat) (h:k < 1000000):inT e e2 rows k = ⟨0,.dead⟩:=ztQ h
theorem zdR [zag] (e e2:Nat) (rows:List (List PV)):inT e e2 rows 1000000 = ⟨1,.tab e (zax 1000000 (List.range rows.length))⟩:=zcs
theorem ztE (rs:List ResultVar) (e e2 n:Nat) (rows:List (List PV)) (res:TR):zFH T rs e e2 n rows res .ret s = zCf T s rs e e2 n rows res:=(rfl)
theorem zpd (rs:List ResultVar) (e e2 n:Nat) (rows:List (List PV)) (res:TR):zFH T rs e e2 n rows res .norm s = zCf T s rs e e2 n rows res:=(rfl)
def ztF (rw:Nat→Row) (e e2 n:Nat) (rows:List (List PV)):Prop:=∃ q:List Nat,TabIs rw lent 1 e e2 q rows∧q.Perm (List.range n)
theorem zpe (r e e2 n:Nat) (rows:List (List PV)):zCf T s [.tmp r] e e2 n rows .self = (ztF s.rw e e2 n rows∧s.sl r = .own 1000000 1):=(rfl)
theorem zlK (r r2 e e2 n:Nat) (rows:List (List PV)) (x:Value):zCf T s [.tmp r,.tmp r2] e e2 n rows (.selfx x) = (ztF s.rw e e2 n rows∧s.sl r = .own 1000000 1∧s.sl r2 = .v x):=(rfl)
theorem zxM (rs:List ResultVar) (e e2 n:Nat) (rows:List (List PV)) (r:RV):zCf T s rs e e2 n rows (.rv r) = (ztF s.rw e e2 n rows∧zuE T s rs r):=(rfl)
theorem zgk [zag] (d e e2:Nat) (rows:List (List PV)):(zak s d (.tb e e2 rows)).sl d = .own d ((s.rw d).ver + 1):=by
 unfold zak
 rw [zaA]
 rfl
theorem zdS [zag] (d e e2 t:Nat) (rows:List (List PV)) (h:t ≠ d):(zak s d (.tb e e2 rows)).sl t = s.sl t:=by
 unfold zak
 rw [zaU _ _ _ _ h]
theorem zgl [zag] (d e e2 j:Nat) (rows:List (List PV)) (h:(j % 1000 == d % 1000) = false):(zak s d (.tb e e2 rows)).rw j = s.rw j:=by
 have h:=beq_eq_false_iff_ne.1 h
 unfold zak
 rw [zew]
 show zau s.rw d (leaves (.tb e e2 rows)) 0 j = s.rw j
 rw [zct]
 refine zce _ _ _ _ _ fun i _ e=>h ?_
 rw [e];unfold zaj;omega
theorem zpf [zag] (d e e2:Nat) (rows:List (List PV)) {i:Nat} (h:i < rows.length):(zak s d (.tb e e2 rows)).rw (sid d i) = ⟨(s.rw (sid d i)).ver + 1,.sli e2 1 false (rows.getD i [])⟩:=by
 have hrw:(zak s d (.tb e e2 rows)).rw = zg2 s.rw d (zbh s.rw d (leaves (.tb e e2 rows)) 0) 0:=by
  unfold zak;rw [zew];exact zct _ _ _ _
 have hl:(leaves (.tb e e2 rows)).length = rows.length + 1:=by rw [leaves];simp
 have h1:i + 1 < (zbh s.rw d (leaves (.tb e e2 rows)) 0).length:=by rw [za1,hl];omega
 have h2:i + 1 < (leaves (.tb e e2 rows)).length:=by rw [hl];omega
 have:=zc9 s.rw d (zbh s.rw d (leaves (.tb e e2 rows)) 0) 0 (i + 1) h1
 rw [Nat.zero_add] at this
 rw [hrw]
 show zg2 s.rw d _ 0 (zaj d (i + 1)) = _
 rw [this,zc3 _ _ _ _ _ h2,Nat.zero_add]
 have h3:(leaves (.tb e e2 rows))[i + 1] = (e2,some 1,rows[i]):=by simp [leaves]
 rw [h3]
 simp [zbC,sid,List.getD,h]
theorem zdE [zag] (d e e2:Nat) (rows:List (List PV)):(zak s d (.tb e e2 rows)).rw d = ⟨(s.rw d).ver + 1,.tab e (zaR s.rw d 0 rows.length)⟩:=by
 have hrw:(zak s d (.tb e e2 rows)).rw = zg2 s.rw d (zbh s.rw d (leaves (.tb e e2 rows)) 0) 0:=by
  unfold zak;rw [zew];exact zct _ _ _ _
 have hl:(leaves (.tb e e2 rows)).length = rows.length + 1:=by rw [leaves];simp
 have h1:0 < (zbh s.rw d (leaves (.tb e e2 rows)) 0).length:=by rw [za1,hl];omega
 have h2:0 < (leaves (.tb e e2 rows)).length:=by rw [hl];omega
 have:=zc9 s.rw d (zbh s.rw d (leaves (.tb e e2 rows)) 0) 0 0 h1
 rw [Nat.zero_add] at this
 rw [hrw]
 have hd:zaj d 0 = d:=by unfold zaj;omega
 have e1:zg2 s.rw d (zbh s.rw d (leaves (.tb e e2 rows)) 0) 0 d = zg2 s.rw d (zbh s.rw d (leaves (.tb e e2 rows)) 0) 0 (zaj d 0):=by rw [hd]
 rw [e1,this,zc3 _ _ _ _ _ h2]
 have h3:(leaves (.tb e e2 rows))[0] = (e,none,List.replicate rows.length .junk):=by simp [leaves]
 rw [h3]
 simp [zbC,hd]
theorem zjm [zag] (d j:Nat):zaj d (0 + 1 + j) = sid d j:=by rw [zbq];unfold zaj;omega
theorem zxN [zag] (d e e2:Nat) (rows:List (List PV)) (h:∀ i,i < rows.length→(s.rw (sid d i)).ver = 0):TabIs (zak s d (.tb e e2 rows)).rw d ((s.rw d).ver + 1) e e2 (List.range rows.length) rows:=by
 refine ⟨?_,by simp,fun i hi=>?_⟩
 ·rw [zdE]
  congr 2
  unfold zaR zax
  refine List.map_congr_left fun j hj=>?_
  rw [zjm,h j (List.mem_range.1 hj)]
 ·have hi':i < rows.length:=by simpa using hi
  have:(List.range rows.length).getD i 0 = i:=by simp [List.getD,hi']
  rw [this,zpf d e e2 rows hi',h i hi']
theorem zqE [zag] (d e e2:Nat) (rows:List (List PV)):(zaR s.rw d 0 rows.length).map (zkC (zak s d (.tb e e2 rows)).rw) = rows.map fun r=>.sl false 1 r:=by
 refine List.ext_getElem (by simp [zaR]) fun i a b=>?_
 have hi:i < rows.length:=by simpa using b
 have h2:rows.getD i [] = rows[i]:=by simp [List.getD,hi]
 rw [List.getElem_map,List.getElem_map]
 simp only [zaR,List.getElem_map,List.getElem_range]
 rw [zjm]
 simp only [zkC,zpf d e e2 rows hi,if_true,h2]
end
theorem zgm (k:Nat) (p:List Nat):(s.killed k p).sl = s.sl:=(rfl)
theorem zgn [zag] (k:Nat) (p:List Nat) (j:Nat) (h:(j % 1000 == k % 1000) = false):(s.killed k p).rw j = s.rw j:=by
 have h:=beq_eq_false_iff_ne.1 h
 refine zbH fun hj=>h ?_
 rcases hj with rfl | ⟨x,_,rfl⟩
 ·rfl
 ·exact zaa _ _
theorem zjn [zag] {rw0:Nat→Row} (d e e2:Nat) (rows:List (List PV)) (h:∀ i,s.rw (sid d i) = rw0 (sid d i)):(zaR rw0 d 0 rows.length).map (zkC (zak s d (.tb e e2 rows)).rw) = rows.map fun r=>.sl false 1 r:=by
 have:zaR rw0 d 0 rows.length = zaR s.rw d 0 rows.length:=by
  unfold zaR
  refine List.map_congr_left fun j _=>?_
  rw [zjm,h j]
 rw [this,zqE]
theorem zCe (M:List (List Int)):(M.map iL).map (fun r=>PV.sl false 1 r) = iLL M:=by
 unfold iLL
 rw [List.map_map];rfl
def zpg [zag] {α:Type} (I:α→St→Prop) (μ:α→Nat) (m:Nat) (s2:St):Prop:=∃ x' s3,Wk s2 s3∧I x' s3∧μ x' < m
theorem zah [zag] {α:Type} {I:α→St→Prop} {μ:α→Nat} {m:Nat} (x':α) (h:I x' s) (hm:μ x' < m):zpg I μ m s:=⟨x',s,Wk.refl s,h,hm⟩
theorem zam [zag] {α:Type} (I:α→St→Prop) (μ:α→Nat) (x0:α) {b:(AX→St→Prop)→St→Prop} {u:Dm b} {v:Dm Q} (h0:I x0 s) (h:∀ x s1,I x s1→b (AX.seq (zpg I μ (μ x)) Q) s1):zqG (kk b u) (kk Q v) s :=
 ⟨α,I,μ,⟨x0,s,Wk.refl s,h0⟩,h⟩
end
end Go.Abs
