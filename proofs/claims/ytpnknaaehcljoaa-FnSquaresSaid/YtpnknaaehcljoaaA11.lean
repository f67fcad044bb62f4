/- DERIVED by an AI agent. Rules by which simp carries a text out, head first. No program in sight. -/
import Derived.Test.YtpnknaaehcljoaaA10
namespace Go.Abs
set_option linter.unusedSimpArgs false
set_option linter.unusedVariables false
def iL (xs:List Int):List PV:=xs.map fun n=>.v (.int .i64 n)
def kL (k:IntKind) (xs:List Int):List PV:=xs.map fun n=>.v (.int k n)
def sL (xs:List ByteArray):List PV:=xs.map fun n=>.v (.string n)
def bL (xs:List Bool):List PV:=xs.map fun n=>.v (.bool n)
def iLL (xss:List (List Int)):List PV:=xss.map fun r=>.sl false 1 (iL r)
abbrev zbr (xs:List Int):PV:=.sl false 1 (iL xs)
abbrev zOd (xs:List ByteArray):PV:=.sl false 1 (sL xs)
abbrev zcp (xss:List (List Int)):PV:=.sl false 1 (iLL xss)
abbrev int (n:Int):PV:=.v (.int .i64 n)
abbrev u64 (n:Int):PV:=.v (.int .u64 n)
abbrev bool (b:Bool):PV:=.v (.bool b)
abbrev str (s:ByteArray):PV:=.v (.string s)
theorem zl6 (xs:List Int):(iL xs).length = xs.length:=by simp [iL]
theorem zl7 (k:IntKind) (xs:List Int):(kL k xs).length = xs.length:=by simp [kL]
theorem zl8 (xs:List ByteArray):(sL xs).length = xs.length:=by simp [sL]
theorem zl9 (xs:List Bool):(bL xs).length = xs.length:=by simp [bL]
theorem zjr (xs:List (List Int)):(iLL xs).length = xs.length:=by simp [iLL]
theorem zma (xs ys:List Int):iL xs ++ iL ys = iL (xs ++ ys):=by simp [iL]
theorem ztz (xs:List Int) (n:Int):iL xs ++ [.v (.int .i64 n)] = iL (xs ++ [n]):=by simp [iL]
theorem zmb (k:IntKind) (xs ys:List Int):kL k xs ++ kL k ys = kL k (xs ++ ys):=by simp [kL]
theorem ztA (k:IntKind) (xs:List Int) (n:Int):kL k xs ++ [.v (.int k n)] = kL k (xs ++ [n]):=by simp [kL]
theorem ztB (xs:List ByteArray) (n:ByteArray):sL xs ++ [.v (.string n)] = sL (xs ++ [n]):=by simp [sL]
theorem zmc (xs ys:List ByteArray):sL xs ++ sL ys = sL (xs ++ ys):=by simp [sL]
theorem zpL (xs:List (List Int)) (r:List Int):iLL xs ++ [.sl false 1 (iL r)] = iLL (xs ++ [r]):=by simp [iLL]
theorem zjs (xs ys:List (List Int)):iLL xs ++ iLL ys = iLL (xs ++ ys):=by simp [iLL]
theorem ztC (xs:List Int) (n:Nat):(iL xs).take n = iL (xs.take n):=by simp [iL]
theorem ztD (xs:List Int) (n:Nat):(iL xs).drop n = iL (xs.drop n):=by simp [iL]
theorem ztE (xs:List ByteArray) (n:Nat):(sL xs).take n = sL (xs.take n):=by simp [sL]
theorem ztF (xs:List ByteArray) (n:Nat):(sL xs).drop n = sL (xs.drop n):=by simp [sL]
theorem zpM (xs:List (List Int)) (n:Nat):(iLL xs).take n = iLL (xs.take n):=by simp [iLL]
theorem zpN (xs:List (List Int)) (n:Nat):(iLL xs).drop n = iLL (xs.drop n):=by simp [iLL]
theorem zys (xs:List Int) (i:Nat) (n:Int):spl (iL xs) i [.v (.int .i64 n)] = iL (xs.set i n):=by simp [spl,iL]
theorem zyt (a p:PV) (c:List PV):spl (a :: c) 0 [p] = p :: c:=by simp [spl]
theorem zyu (a b p:PV) (c:List PV):spl (a :: b :: c) 1 [p] = a :: p :: c:=by simp [spl]
theorem zyv (a b d p:PV) (c:List PV):spl (a :: b :: d :: c) 2 [p] = a :: b :: p :: c:=by simp [spl]
theorem zyw (a b d e p:PV) (c:List PV):spl (a :: b :: d :: e :: c) 3 [p] = a :: b :: d :: p :: c:=by simp [spl]
theorem zyx (a b p q:PV):spl [a,b] 0 [p,q] = [p,q]:=by simp [spl]
theorem zyy (a b c d p q:PV):spl [a,b,c,d] 0 [p,q] = [p,q,c,d]:=by simp [spl]
theorem ztG (a b c d p q:PV):spl [a,b,c,d] 2 [p,q] = [a,b,p,q]:=by simp [spl]
theorem zyz (a b c d p q r s:PV):spl [a,b,c,d] 0 [p,q,r,s] = [p,q,r,s]:=by simp [spl]
theorem zyA (xs:List Bool) (i:Nat) (n:Bool):spl (bL xs) i [.v (.bool n)] = bL (xs.set i n):=by simp [spl,bL]
theorem ztH (xs:List (List Int)) (i:Nat) (r:List Int):spl (iLL xs) i [.sl false 1 (iL r)] = iLL (xs.set i r):=by simp [spl,iLL]
theorem zgj (n:Nat) (x:Int):List.replicate n (PV.v (.int .i64 x)) = iL (List.replicate n x):=by simp [iL]
theorem zdM (n:Nat) (x:Bool):List.replicate n (PV.v (.bool x)) = bL (List.replicate n x):=by simp [bL]
theorem ztI (xs:List Int):(∀ p ∈ iL xs,isV p = true) = True:=by simp [iL,isV,Value.oneCell']
theorem zCn (k:IntKind) (xs:List Int):(∀ p ∈ kL k xs,isV p = true) = True:=by simp [kL,isV,Value.oneCell']
theorem zCo (xs:List ByteArray):(∀ p ∈ sL xs,isV p = true) = True:=by simp [sL,isV,Value.oneCell']
theorem zxf (xs:List (List Int)):(∀ p ∈ iLL xs,zoC p = true) = True:=by simp [iLL,zoC]
theorem ztJ (k:IntKind) (n:Int):(Value.int k n).oneCell' = true:=(rfl)
theorem zpO (b:Bool):(Value.bool b).oneCell' = true:=(rfl)
theorem zjt (b:ByteArray):(Value.string b).oneCell' = true:=(rfl)
theorem zmd (a:Option Addr) (l c:Nat):(Value.slice a l c).oneCell' = true:=(rfl)
theorem zg7 (s:St) (p:PV):s.put none p = s:=(rfl)
theorem zcD (s:St) (d:Option Nat) (p:PV):(s.put d p).rw = s.rw:=by cases d <;> rfl
theorem zpP (s:St) (k:Nat) (r:Row):(s.row k r).sl = s.sl:=(rfl)
theorem zaz (s:St) (k:Nat) (r:Row):(s.row k r).rw k = r:=by simp [St.row]
theorem zao (s:St) (k j:Nat) (r:Row) (h:j ≠ k):(s.row k r).rw j = s.rw j:=by simp [St.row,h]
theorem zeZ (s:St) (ks:List Nat):(s.freeze ks).sl = s.sl:=(rfl)
theorem ze0 (s:St) (ks:List Nat) (k:Nat):(s.freeze ks).rw k = if k ∈ ks then frz (s.rw k) else s.rw k:=(rfl)
theorem zkZ (ver:Nat) (e sz:Nat) (fz:Bool) (c:List PV):frz ⟨ver,.sli e sz fz c⟩ = ⟨ver,.sli e sz true c⟩:=(rfl)
theorem zpQ (s:St) (t:Nat):s.ev (.tmp t) = s.sl t:=(rfl)
theorem ztK (s:St) (f:FuncId):s.ev (.func f) = .clo f []:=(rfl)
theorem zpR (s:St) (k:IntKind) (n:Int):s.ev (.const (.int k n)) = .v (.int k n):=(rfl)
theorem zk0 (s:St) (b:Bool):s.ev (.const (.bool b)) = .v (.bool b):=(rfl)
theorem ze1 (s:St) (b:ByteArray):s.ev (.const (.string b)) = .v (.string b):=(rfl)
theorem zpS (s:St) (a:Option Addr) (l c:Nat):s.ev (.const (.slice a l c)) = .v (.slice a l c):=(rfl)
theorem zyB (s:St) (cs:List Value):s.ev (.const (.agg ⟨cs⟩)) = .ag (cs.map PV.v):=(rfl)
theorem zk1 (args:List PV) (i:Nat):(St.init args).sl i = args.getD i .junk:=(rfl)
theorem zk2 (args:List PV) (i:Nat):(St.init args).rw i = ⟨0,.dead⟩:=(rfl)
theorem ze2 {α:Type} (a:α) (l:List α) (d:α):(a :: l).getD 0 d = a:=(rfl)
theorem ze3 {α:Type} (a:α) (l:List α) (i:Nat) (d:α):(a :: l).getD (i + 1) d = l.getD i d:=(rfl)
theorem zg8 {α:Type} (i:Nat) (d:α):([]:List α).getD i d = d:=(rfl)
theorem zg9 (s:St) (d:Nat) (kd:RK) (p:Nat→PV):zcl s d kd p = (s.row d ⟨(s.rw d).ver + 1,kd⟩).put (some d) (p ((s.rw d).ver + 1)):=(rfl)
theorem zha (s:St) (d k:Nat) (kd:RK):zcv s d k kd = (s.row k ⟨(s.rw k).ver + 1,kd⟩).put (some d) (.own k ((s.rw k).ver + 1)):=(rfl)
def St.with (g:St) (l:List (Nat × PV)) (r:List (Nat × Row)):St:=r.foldl (fun s x=>s.row x.1 x.2) (l.foldl (fun s x=>s.put (some x.1) x.2) g)
structure Dm {α:Type} (K:α):Type
def kk {α:Type} (K:α) (_:Dm K:=⟨⟩):α:=K
theorem zxg {α β:Type} (K:α→β) (u:Dm K) (x:α):kk K u x = K x:=(rfl)
def evK (p:PV) (K:PV→Prop):Prop:=K p
theorem zCp (v:Value) (K:PV→Prop):evK (.v v) K = K (.v v):=(rfl)
theorem zyC (fr:Bool) (z:Nat) (c:List PV) (K:PV→Prop):evK (.sl fr z c) K = K (.sl fr z c):=(rfl)
theorem ztL (j v:Nat) (K:PV→Prop):evK (.own j v) K = K (.own j v):=(rfl)
theorem ztM (j v o:Nat) (K:PV→Prop):evK (.ref j v o) K = K (.ref j v o):=(rfl)
theorem zpT (fr:Bool) (c:List PV) (o:Nat) (K:PV→Prop):evK (.eref fr c o) K = K (.eref fr c o):=(rfl)
theorem zyD (c:List PV) (K:PV→Prop):evK (.ag c) K = K (.ag c):=(rfl)
theorem ztN (c:List PV) (K:PV→Prop):evK (.tup c) K = K (.tup c):=(rfl)
theorem ztO (f:FuncId) (c:List PV) (K:PV→Prop):evK (.clo f c) K = K (.clo f c):=(rfl)
theorem zpU (K:PV→Prop):evK .junk K = K .junk:=(rfl)
section
variable {P:Program} {T:Tab} {ops:Array Oper} {Q:AX→St→Prop} {s:St}
def zxh (p:PV) (A B:Prop):Prop:=match p with | .v (.bool b)=>(b = true→A)∧(b = false→B) | _=>False
def c1 (b:Bool) (A B:Prop):Prop:=(b = true→A)∧(b = false→B)
def c2 (b:Bool) (A B:Prop):Prop:=(b = true→A)∧(b = false→B)
def d1 (b:Bool) (A B:Prop):Prop:=(b = false→A)∧(b = true→B)
def d2 (b:Bool) (A B:Prop):Prop:=(b = false→A)∧(b = true→B)
theorem zCq (A B:Prop):c1 true (kk A) (kk B) = A:=by simp [c1,kk]
theorem zCr (A B:Prop):c1 false (kk A) (kk B) = B:=by simp [c1,kk]
theorem zCs (A B:Prop):c2 true (kk A) (kk B) = A:=by simp [c2,kk]
theorem zCt (A B:Prop):c2 false (kk A) (kk B) = B:=by simp [c2,kk]
theorem zCu (A B:Prop):d1 true (kk A) (kk B) = B:=by simp [d1,kk]
theorem zCv (A B:Prop):d1 false (kk A) (kk B) = A:=by simp [d1,kk]
theorem zCw (A B:Prop):d2 true (kk A) (kk B) = B:=by simp [d2,kk]
theorem zCx (A B:Prop):d2 false (kk A) (kk B) = A:=by simp [d2,kk]
theorem zyE (b:Bool) (A B:Prop):c1 b A B = c2 b A B:=(rfl)
theorem zyF (b:Bool) (A B:Prop):c2 b (kk A) (kk B) = ((b = true→A)∧(b = false→B)):=(rfl)
theorem zyG (b:Bool) (A B:Prop):d1 b A B = d2 b A B:=(rfl)
theorem zyH (b:Bool) (A B:Prop):d2 b (kk A) (kk B) = ((b = false→A)∧(b = true→B)):=(rfl)
theorem zju (b:Bool) (A B:Prop):zxh (.v (.bool b)) A B = c1 b A B:=(rfl)
theorem zpV [zah]:cwp P T .skip Q s = Q .norm s:=(rfl)
theorem zgk [zah] (id:Nat):cwp P T (.region id ops false) Q s = zo2 P T ops ops.toList s (Q .norm):=(rfl)
theorem zgl [zah] (id:Nat):cwp P T (.region id ops true) Q s = (ziz ops = true∧zdS P T ops [] ops.toList s (Q .norm)):=(rfl)
theorem ztP [zah] (x y:Code):cwp P T (.seq x y) Q s = cwp P T x (AX.seq (cwp P T y Q) Q) s:=(rfl)
theorem zpW [zah] (c:Operand) (x y:Code):cwp P T (.cond c x y) Q s = zxh (s.ev c) (kk (cwp P T x Q s)) (kk (cwp P T y Q s)):=(rfl)
theorem zme [zah] (id:Nat) (x:Code):cwp P T (.block id x) Q s = cwp P T x (AX.blk id Q) s:=(rfl)
theorem zpX [zah] (x:Code):cwp P T (.loop x) Q s = zvo (kk (cwp P T x)) (kk Q) s:=(rfl)
theorem zpY [zah] (id:Nat):cwp P T (.exit id) Q s = Q (.exit id) s:=(rfl)
theorem ztQ [zah]:cwp P T .ret Q s = Q .ret s:=(rfl)
theorem zmf [zah] (l:Nat):cwp P T (.label l) Q s = Q .norm s:=(rfl)
variable {K:St→Prop}
theorem zpZ:AX.seq K Q .norm s = K s:=(rfl)
theorem ztR:AX.seq K Q .ret s = Q .ret s:=(rfl)
theorem zp0 (id:Nat):AX.seq K Q (.exit id) s = Q (.exit id) s:=(rfl)
theorem zp1 (id:Nat):AX.blk id Q .norm s = Q .norm s:=(rfl)
theorem ztS (id:Nat):AX.blk id Q .ret s = Q .ret s:=(rfl)
theorem ze4 (id:Nat):AX.blk id Q (.exit id) s = Q .norm s:=by simp [AX.blk]
theorem zhJ (id i:Nat) (h:i ≠ id):AX.blk id Q (.exit i) s = Q (.exit i) s:=by simp [AX.blk,h]
theorem zp2 (rs:List ResultVar) (rv:RV):zDB T rs rv .ret s = zsq T s rs rv:=(rfl)
theorem zmg (rs:List ResultVar) (rv:RV):zDB T rs rv .norm s = zsq T s rs rv:=(rfl)
theorem zp3 [zah]:zo2 P T ops [] s K = K s:=(rfl)
theorem zhK:∀ (n:Nat) (p:Nat→Bool),(∀ k,k < n→p k = true)→zch n p = true:=by
 intro n
 induction n with
 | zero=>intro p _;rfl
 | succ n ih=>intro p h;simp only [zch,Bool.and_eq_true];exact ⟨h n (by omega),ih p fun k hk=>h k (by omega)⟩
def clr (e:Ent):List Ent→Bool | []=>true | e' :: l=>!zks e' e && clr e l
def ze5:List Ent→Bool | []=>true | e :: l=>clr e l && ze5 l
theorem zoK:∀ {l:List Ent},ze5 l = true→l.Pairwise fun a b=>zks b a = false:=by
 intro l
 induction l with
 | nil=>intro _;exact .nil
 | cons e l ih =>
   intro h
   simp only [ze5,Bool.and_eq_true] at h
   refine List.pairwise_cons.2 ⟨?_,ih h.2⟩
   have:∀ l':List Ent,clr e l' = true→∀ b ∈ l',zks b e = false:=by
    intro l'
    induction l' with
    | nil=>intro _ b hb;cases hb
    | cons x l' ih' =>
      intro h b hb
      simp only [clr,Bool.and_eq_true,Bool.not_eq_true'] at h
      rcases List.mem_cons.1 hb with rfl | hb
      ·exact h.1
      ·exact ih' h.2 b hb
   exact this l h.1
theorem zsj [zah] {l:List Ent} (h:ze5 l = true):zjl ops l.reverse = true:=by
 have hp:l.reverse.Pairwise fun a b=>zks a b = false:=List.pairwise_reverse.2 (zoK h)
 unfold zjl
 refine zhK _ _ fun j hj=>zhK _ _ fun i hi=>?_
 split
 ·rename_i a b ha hb
  obtain ⟨h1,rfl⟩:=List.getElem?_eq_some_iff.1 ha
  obtain ⟨h2,rfl⟩:=List.getElem?_eq_some_iff.1 hb
  have:=List.pairwise_iff_getElem.1 hp i j h1 h2 hi
  rw [this];rfl
 ·rfl
def ztT (ops:Array Oper) (acc:List Ent) (A:Prop):Prop:=zjl ops acc.reverse = true∧A
def lnK (b:Bool) (ops:Array Oper) (acc:List Ent) (A:Prop):Prop:=match b with | true=>A | false=>zjl ops acc.reverse = true∧A
theorem zmh [zah] (acc:List Ent) (A:Prop):ztT ops acc (kk A) = lnK (ze5 acc) ops acc (kk A):=by
 unfold ztT lnK
 cases h:ze5 acc with
 | true=>simp [zsj h,kk]
 | false=>rfl
theorem zCy (acc:List Ent) (A:Prop):lnK true ops acc (kk A) = A:=(rfl)
theorem zCz (acc:List Ent) (A:Prop):lnK false ops acc (kk A) = (zjl ops acc.reverse = true∧A):=(rfl)
theorem zyI:ze5 [] = true:=(rfl)
theorem ztU (e:Ent) (l:List Ent):ze5 (e :: l) = (clr e l && ze5 l):=(rfl)
theorem ztV (e:Ent):clr e [] = true:=(rfl)
theorem zp4 (e e':Ent) (l:List Ent):clr e (e' :: l) = (!zks e' e && clr e l):=(rfl)
def zlY (l:List Nat) (t:Tc):Bool:=l.any t.has
theorem zp5 (t:Tc):zlY [] t = false:=(rfl)
theorem zmi (k:Nat) (l:List Nat) (t:Tc):zlY (k :: l) t = (t.has k || zlY l t):=(rfl)
theorem ztW (k:Nat):(Tc.ids []).has k = false:=(rfl)
theorem zp6 (a:Nat) (l:List Nat) (k:Nat):(Tc.ids (a :: l)).has k = (a % 1000 == k % 1000 || (Tc.ids l).has k):=(rfl)
theorem ztX (d k:Nat):(Tc.res d).has k = (k % 1000 == d % 1000):=(rfl)
theorem zyJ (a b:List Nat):zks ⟨a,.ids []⟩ ⟨b,.ids []⟩ = false:=by
 have e:∀ l:List Nat,l.any (Tc.ids []).has = false:=fun l=>by
  rw [List.any_eq_false];intro x _;simp [Tc.has]
 simp [zks,e,zeG]
theorem ztY (a b t u:List Nat):zks ⟨a,.ids t⟩ ⟨b,.ids u⟩ = (zlY a (.ids u) || (zlY b (.ids t) || zlY t (.ids u))):=by simp [zks,zlY,zeG,Bool.or_assoc]
theorem ztZ (a b t:List Nat) (d:Nat):zks ⟨a,.ids t⟩ ⟨b,.res d⟩ = (zlY a (.res d) || (zlY b (.ids t) || zlY t (.res d))):=by simp [zks,zlY,zeG,Bool.or_assoc]
theorem zt0 (a b t:List Nat) (d:Nat):zks ⟨a,.res d⟩ ⟨b,.ids t⟩ = (zlY a (.ids t) || (zlY b (.res d) || zlY t (.res d))):=by simp [zks,zlY,zeG,Bool.or_assoc]
theorem zt1 (a b:List Nat) (d d':Nat):zks ⟨a,.res d⟩ ⟨b,.res d'⟩ = (zlY a (.res d') || (zlY b (.res d) || (d % 1000 == d' % 1000))):=by simp [zks,zlY,zeG,Bool.or_assoc]
theorem zmj [zah] (acc:List Ent):zdS P T ops acc [] s K = ztT ops acc (kk (K s)):=(rfl)
def gK (d:Option Nat) (want:Bool) (s:St) (A B:Nat→Prop) (N:Prop):Prop :=
 match d with
 | some d=>(match s.sl d with | .v (.bool b)=>(b = want→A d)∧(b = !want→B d) | .v (.tuple _)=>N | _=>False)
 | none=>False
def gK1 (want:Bool) (p:PV) (A B N:Prop):Prop:=match p with | .v (.bool b)=>(b = want→A)∧(b = !want→B) | .v (.tuple _)=>N | _=>False
theorem zt2 (d:Nat) (want:Bool) (A B:Nat→Prop) (N:Prop):gK (some d) want s A B N = gK1 want (s.sl d) (kk (A d)) (kk (B d)) N:=(rfl)
theorem zmk (want:Bool) (A B N:Prop):gK1 want (.v undef) A B (kk N) = N:=(rfl)
theorem zp7 (b:Bool) (A B N:Prop):gK1 true (.v (.bool b)) A B N = c1 b A B:=(rfl)
theorem zml (b:Bool) (A B N:Prop):gK1 false (.v (.bool b)) A B N = d1 b A B:=(rfl)
theorem zmm [zah] {dst:Option Nat} {op:Op} {ty:TypeId} {pos:String} {af:Array Edge} {os:List Oper} :
 zo2 P T ops (⟨dst,op,ty,pos,af,none⟩ :: os) s K = zdl P T s ⟨dst,op,ty,pos,af,none⟩ (fun s2=>zo2 P T ops os s2 K):=(rfl)
theorem zjv [zah] {dst:Option Nat} {op:Op} {ty:TypeId} {pos:String} {af:Array Edge} {j:Nat} {want:Bool} {os:List Oper} :
 zo2 P T ops (⟨dst,op,ty,pos,af,some (j,want)⟩ :: os) s K = gK ((ops[j]?).bind (·.dst)) want s
  (kk fun d=>zdl P T (s.put (some d) (.v (.bool want))) ⟨dst,op,ty,pos,af,some (j,want)⟩ (fun s2=>zo2 P T ops os s2 K))
  (kk fun d=>zo2 P T ops os ((s.put (some d) (.v (.bool !want))).put dst (.v undef)) K) (kk (zo2 P T ops os (s.put dst (.v undef)) K)):=(rfl)
theorem zyK (l:List Oper) (j:Nat):((⟨l⟩:Array Oper)[j]?) = l[j]?:=by simp
theorem getElem?_zero {α:Type} (a:α) (l:List α):(a :: l)[0]? = some a:=(rfl)
theorem getElem?_succ {α:Type} (a:α) (l:List α) (i:Nat):(a :: l)[i + 1]? = l[i]?:=(rfl)
theorem zmn (o:Oper):(some o).bind (·.dst) = o.dst:=(rfl)
theorem zjw [zah] {dst:Option Nat} {op:Op} {ty:TypeId} {pos:String} {af:Array Edge} {os:List Oper} (acc:List Ent) :
 zdS P T ops acc (⟨dst,op,ty,pos,af,none⟩ :: os) s K = dK P T s ⟨dst,op,ty,pos,af,none⟩ (kk fun e s2=>zdS P T ops (e :: acc) os s2 K):=(rfl)
theorem zhL [zah] {dst:Option Nat} {op:Op} {ty:TypeId} {pos:String} {af:Array Edge} {j:Nat} {want:Bool} {os:List Oper} (acc:List Ent) :
 zdS P T ops acc (⟨dst,op,ty,pos,af,some (j,want)⟩ :: os) s K = gK ((ops[j]?).bind (·.dst)) want s
  (kk fun d=>dK P T (s.put (some d) (.v (.bool want))) ⟨dst,op,ty,pos,af,some (j,want)⟩ (kk fun e s2=>zdS P T ops (e :: acc) os s2 K))
  (kk fun d=>zdS P T ops (⟨[],.ids []⟩ :: acc) os ((s.put (some d) (.v (.bool !want))).put dst (.v undef)) K) (kk (zdS P T ops (⟨[],.ids []⟩ :: acc) os (s.put dst (.v undef)) K)):=(rfl)
def zct (l:List PV) (acc:List Nat) (Kn:List Nat→Prop):Prop:=Kn (acc ++ l.flatMap zdp)
def zlZ (l:List PV) (acc:List Nat) (Kn:List Nat→Prop):Prop:=Kn (acc ++ l.flatMap zzn)
section
variable (l:List PV) (acc:List Nat) (Kn:List Nat→Prop)
theorem zp8:zct [] acc (kk Kn) = Kn acc:=by simp [zct,kk]
theorem zyL (x:Value):zct (.v x :: l) acc (kk Kn) = zct l acc (kk Kn):=(rfl)
theorem zt3 (fr:Bool) (z:Nat) (c:List PV):zct (.sl fr z c :: l) acc (kk Kn) = zct l acc (kk Kn):=(rfl)
theorem zmo (fr:Bool) (c:List PV) (o:Nat):zct (.eref fr c o :: l) acc (kk Kn) = zct l acc (kk Kn):=(rfl)
theorem zp9 (f:FuncId) (c:List PV):zct (.clo f c :: l) acc (kk Kn) = zct l acc (kk Kn):=(rfl)
theorem zqa (c:List PV):zct (.tup c :: l) acc (kk Kn) = zct l acc (kk Kn):=(rfl)
theorem zmp:zct (.junk :: l) acc (kk Kn) = zct l acc (kk Kn):=(rfl)
theorem zqb (k v:Nat):zct (.own k v :: l) acc (kk Kn) = zct l (acc ++ [k % 1000]) (kk Kn):=by simp [zct,kk,zdp,List.flatMap_cons]
theorem zqc (k v o:Nat):zct (.ref k v o :: l) acc (kk Kn) = zct l (acc ++ [k % 1000]) (kk Kn):=by simp [zct,kk,zdp,List.flatMap_cons]
theorem zt4 (c:List PV):zct (.ag c :: l) acc (kk Kn) = zlZ c acc (kk fun acc'=>zct l acc' (kk Kn)):=by simp [zct,zlZ,kk,zdp,List.flatMap_cons]
theorem zqd:zlZ [] acc (kk Kn) = Kn acc:=by simp [zlZ,kk]
theorem zyM (x:Value):zlZ (.v x :: l) acc (kk Kn) = zlZ l acc (kk Kn):=(rfl)
theorem zt5 (fr:Bool) (z:Nat) (c:List PV):zlZ (.sl fr z c :: l) acc (kk Kn) = zlZ l acc (kk Kn):=(rfl)
theorem zmq (fr:Bool) (c:List PV) (o:Nat):zlZ (.eref fr c o :: l) acc (kk Kn) = zlZ l acc (kk Kn):=(rfl)
theorem zqe (f:FuncId) (c:List PV):zlZ (.clo f c :: l) acc (kk Kn) = zlZ l acc (kk Kn):=(rfl)
theorem zqf (k v:Nat):zlZ (.own k v :: l) acc (kk Kn) = zlZ l (acc ++ [k % 1000]) (kk Kn):=by simp [zlZ,kk,zzn,List.flatMap_cons]
theorem zqg (k v o:Nat):zlZ (.ref k v o :: l) acc (kk Kn) = zlZ l (acc ++ [k % 1000]) (kk Kn):=by simp [zlZ,kk,zzn,List.flatMap_cons]
end
def zdH (rw:Nat→Row) (n:Nat) (l:List PV) (acc:List Nat) (Kn:List Nat→Prop):Prop:=Kn (acc ++ l.flatMap (zdd rw n))
def zhM (r:Row) (rw:Nat→Row) (n:Nat) (acc:List Nat) (Kn:List Nat→Prop):Prop:=Kn (acc ++ (match r.kind with | .box _ c=>c.flatMap (zdd rw n) | _=>[]))
def zhN (r:Row) (k:Nat) (acc:List Nat) (Kn:List Nat→Prop):Prop:=Kn (acc ++ (match r.kind with | .tab _ c=>zoW k c | _=>[]))
section
variable (rw:Nat→Row) (n:Nat) (l:List PV) (acc:List Nat) (Kn:List Nat→Prop)
theorem zqh:zdH rw n [] acc (kk Kn) = Kn acc:=by simp [zdH,kk]
theorem zmr:zdH rw 0 l acc (kk Kn) = Kn acc:=by
 have:l.flatMap (zdd rw 0) = []:=by simp [zdd]
 unfold zdH kk
 rw [this,List.append_nil]
theorem zyN (x:Value):zdH rw (n + 1) (.v x :: l) acc (kk Kn) = zdH rw (n + 1) l acc (kk Kn):=by simp [zdH,zdd,List.flatMap_cons]
theorem zt6 (fr:Bool) (z:Nat) (c:List PV):zdH rw (n + 1) (.sl fr z c :: l) acc (kk Kn) = zdH rw (n + 1) l acc (kk Kn):=by simp [zdH,zdd,List.flatMap_cons]
theorem zms (fr:Bool) (c:List PV) (o:Nat):zdH rw (n + 1) (.eref fr c o :: l) acc (kk Kn) = zdH rw (n + 1) l acc (kk Kn):=by simp [zdH,zdd,List.flatMap_cons]
theorem zmt:zdH rw (n + 1) (.junk :: l) acc (kk Kn) = zdH rw (n + 1) l acc (kk Kn):=by simp [zdH,zdd,List.flatMap_cons]
theorem zqi (k v:Nat):zdH rw (n + 1) (.own k v :: l) acc (kk Kn) = zhN (rw k) k (acc ++ [k % 1000]) (kk fun acc'=>zdH rw (n + 1) l acc' (kk Kn)):=by
 simp only [zdH,zhN,kk,List.flatMap_cons]
 rw [zdd]
 cases (rw k).kind <;> simp
theorem zjx (k ver e z:Nat) (fz:Bool) (c:List PV):zhN ⟨ver,.sli e z fz c⟩ k acc (kk Kn) = Kn acc:=by simp [zhN,kk]
theorem zjy (k ver:Nat):zhN ⟨ver,.nil⟩ k acc (kk Kn) = Kn acc:=by simp [zhN,kk]
theorem zjz (k ver e:Nat) (c:List PV):zhN ⟨ver,.tab e c⟩ k acc (kk Kn) = Kn (acc ++ zoW k c):=(rfl)
theorem zhO [zah] (k:Nat) (p:List Nat):zoW k (zar k p) = []:=by
 unfold zoW zar
 rw [List.flatMap_eq_nil_iff]
 intro q hq
 obtain ⟨j,_,rfl⟩:=List.mem_map.1 hq
 simp [zaa]
theorem zmu (rw':Nat→Row) (k m:Nat):zoW k (zaM rw' k 0 m) = []:=by
 unfold zoW zaM
 rw [List.flatMap_eq_nil_iff]
 intro q hq
 obtain ⟨j,_,rfl⟩:=List.mem_map.1 hq
 simp [zan]
theorem zt7 (c:List PV):zdH rw (n + 1) (.ag c :: l) acc (kk Kn) = zdH rw n c acc (kk fun acc'=>zdH rw (n + 1) l acc' (kk Kn)):=by simp [zdH,zdd,List.flatMap_cons,kk]
theorem zqj (f:FuncId) (c:List PV):zdH rw (n + 1) (.clo f c :: l) acc (kk Kn) = zdH rw n c acc (kk fun acc'=>zdH rw (n + 1) l acc' (kk Kn)):=by simp [zdH,zdd,List.flatMap_cons,kk]
theorem zqk (k v o:Nat):zdH rw (n + 1) (.ref k v o :: l) acc (kk Kn) = zhM (rw k) rw n (acc ++ [k % 1000]) (kk fun acc'=>zdH rw (n + 1) l acc' (kk Kn)):=by
 simp only [zdH,zhM,kk,List.flatMap_cons]
 rw [zdd]
 cases (rw k).kind <;> simp
theorem zjA (ver:Nat) (t:TypeId) (c:List PV):zhM ⟨ver,.box t c⟩ rw n acc (kk Kn) = zdH rw n c acc (kk Kn):=(rfl)
theorem zjB (ver e z:Nat) (fz:Bool) (c:List PV):zhM ⟨ver,.sli e z fz c⟩ rw n acc (kk Kn) = Kn acc:=by simp [zhM,kk]
theorem zjC (ver:Nat):zhM ⟨ver,.nil⟩ rw n acc (kk Kn) = Kn acc:=by simp [zhM,kk]
end
section
variable {dst:Option Nat} {ty:TypeId} {pos:String} {af:Array Edge} {g:Option (Nat × Bool)}
theorem zql [zah] (x:Operand):opK P T s ⟨dst,.move x,ty,pos,af,g⟩ K = evK (s.ev x) (kk fun p=>K (s.put dst p)):=(rfl)
theorem zey [zah] (t:Nat):opK P T s ⟨dst,.assign (.tmp t),ty,pos,af,g⟩ K = evK (s.sl t) (kk fun p=>K (s.put dst p)):=(rfl)
theorem zez [zah] (k:IntKind) (n:Int):opK P T s ⟨dst,.assign (.const (.int k n)),ty,pos,af,g⟩ K = K (s.put dst (.v (.int k n))):=(rfl)
theorem zdN [zah] (b:Bool):opK P T s ⟨dst,.assign (.const (.bool b)),ty,pos,af,g⟩ K = K (s.put dst (.v (.bool b))):=(rfl)
theorem zc9 [zah] (b:ByteArray):opK P T s ⟨dst,.assign (.const (.string b)),ty,pos,af,g⟩ K = K (s.put dst (.v (.string b))):=(rfl)
theorem zeA [zah] (cs:List Value):opK P T s ⟨dst,.assign (.const (.agg ⟨cs⟩)),ty,pos,af,g⟩ K = K (s.put dst (.ag (cs.map PV.v))):=(rfl)
def nilRow (T:Tab) (k:TK):RK:=match k with | .sli e=>.sli e (T e).size false [] | _=>.nil
theorem zjD (e:TypeId):nilRow T (.sli e) = .sli e (T e).size false []:=(rfl)
theorem zeB [zah] (d:Nat):opK P T s ⟨some d,.assign (.const (.slice none 0 0)),ty,pos,af,g⟩ K = K (zcl s d (nilRow T (T ty).k) fun v=>.own d v):=(rfl)
theorem zqm [zah] (c x y:Operand):opK P T s ⟨dst,.pick c x y,ty,pos,af,g⟩ K = zxh (s.ev c) (kk (evK (s.ev x) (kk fun p=>K (s.put dst p)))) (kk (evK (s.ev y) (kk fun p=>K (s.put dst p)))):=(rfl)
theorem zt8 [zah] (op:BinOp) (t t2:TypeId) (x y:Operand):opK P T s ⟨dst,.binOp op t x y t2,ty,pos,af,g⟩ K = zcn T op t (s.ev x) (s.ev y) (kk fun p=>K (s.put dst p)):=(rfl)
theorem zyO [zah] (op:UnOp) (t:TypeId) (x:Operand):opK P T s ⟨dst,.unOp op t x,ty,pos,af,g⟩ K = unK op (s.ev x) (kk fun p=>K (s.put dst p)):=(rfl)
theorem zhP [zah] (a b:TypeId) (x:Operand):opK P T s ⟨dst,.convert a b x,ty,pos,af,g⟩ K = zfu T s.rw a b (s.ev x) (kk fun p=>K (s.put dst p)):=(rfl)
theorem zqn [zah] (t:TypeId) (x:Operand):opK P T s ⟨dst,.load t x,ty,pos,af,g⟩ K = zoD s.rw (s.ev x) (kk fun m c off=>ldK T t m c off (kk fun p=>K (s.put dst p))):=(rfl)
theorem ze6 [zah] (t:TypeId) (x:Operand) (f:Nat):opK P T s ⟨dst,.fieldAddr t x f,ty,pos,af,g⟩ K =
 zcW T t f (kk fun o _=>ziN (s.ev x) = true∧zcI s.rw (s.ev x) (kk (evK (zdg (s.ev x) o) (kk fun p=>K (s.put dst p))))):=(rfl)
def agK (p:PV) (K:List PV→Prop):Prop:=match p with | .ag c=>K c | _=>False
theorem zyP (c:List PV) (Kc:List PV→Prop):agK (.ag c) Kc = Kc c:=(rfl)
def zDM (p:PV) (K:List PV→Prop):Prop:=match p with | .tup c=>K c | _=>False
theorem zqo (c:List PV) (Kc:List PV→Prop):zDM (.tup c) Kc = Kc c:=(rfl)
theorem zhQ [zah] (t:TypeId) (x:Operand) (f:Nat):opK P T s ⟨dst,.field t x f,ty,pos,af,g⟩ K =
 agK (s.ev x) (kk fun c=>zcW T t f (kk fun o ft=>ldK T ft .asis c o (kk fun p=>K (s.put dst p)))):=by
 show zcW T t f (fun o ft=>(match s.ev x with | .ag c=>ldK T ft .asis c o fun p=>K (s.put dst p) | _=>False)) = _
 unfold zcW agK kk
 cases s.ev x
 case ag c=>rfl
 all_goals
  refine propext ⟨fun h=>?_,fun h=>h.elim⟩
  obtain ⟨_,h⟩:=h
  split at h
  ·split at h
   ·exact h.2.elim
   ·exact h.elim
  ·exact h.elim
theorem ze7 [zah] (t:TypeId) (x i:Operand):opK P T s ⟨dst,.indexAddr t x i,ty,pos,af,g⟩ K = za3 T s.rw t (s.ev x) (s.ev i) (kk fun p=>K (s.put dst p)):=(rfl)
def zqp (T:Tab) (t:TypeId) (x i:PV) (K:PV→Prop):Prop:=0 < (T t).size∧(match (T t).k,x,i with
 | .str,.v (.string s),.v (.int _ n)=>0 ≤ n∧n.toNat < s.size∧K (.v (.int .u8 ((s.data.toList.getD n.toNat 0).toNat:Int)))
 | .arr len e,.ag c,.v (.int _ n)=>0 ≤ n∧n < len∧ldK T e .asis c (n.toNat * (T e).size) K
 | _,_,_=>False)
theorem zmv [zah] (t:TypeId) (x i:Operand):opK P T s ⟨dst,.index t x i,ty,pos,af,g⟩ K = zqp T t (s.ev x) (s.ev i) (kk fun p=>K (s.put dst p)):=(rfl)
theorem zhR [zah] (x:Operand) (i:Nat):opK P T s ⟨dst,.extract x i,ty,pos,af,g⟩ K = zDM (s.ev x) (kk fun ps=>i < ps.length∧evK (ps.getD i .junk) (kk fun p=>K (s.put dst p))):=(rfl)
theorem zgm [zah] (x:Operand):opK P T s ⟨dst,.nilCheck x,ty,pos,af,g⟩ K = zcI s.rw (s.ev x) (kk (evK (s.ev x) (kk fun p=>K (s.put dst p)))):=(rfl)
theorem zgn [zah] (f:FuncId) (caps:Array Operand):opK P T s ⟨dst,.makeFunc (.func f) #[] caps,ty,pos,af,g⟩ K = K (s.put dst (.clo f (caps.toList.map s.ev))):=by
 show (#[] = (#[]:Array Operand)∧K (s.put dst (.clo f (caps.toList.map s.ev)))) = _
 simp
theorem zt9 [zah] (x:Operand) (t:TypeId):opK P T s ⟨dst,.call ⟨.builtin .len,#[x],#[t]⟩,ty,pos,af,g⟩ K = zv0 T s.rw t (s.ev x) (kk fun p=>K (s.put dst p)):=(rfl)
theorem zua [zah] (x y:Operand) (ts:Array TypeId):opK P T s ⟨dst,.call ⟨.builtin .max,#[x,y],ts⟩,ty,pos,af,g⟩ K = zcd true (s.ev x) (s.ev y) (kk fun p=>K (s.put dst p)):=(rfl)
theorem zub [zah] (x y:Operand) (ts:Array TypeId):opK P T s ⟨dst,.call ⟨.builtin .min,#[x,y],ts⟩,ty,pos,af,g⟩ K = zcd false (s.ev x) (s.ev y) (kk fun p=>K (s.put dst p)):=(rfl)
theorem zjE [zah] (d:Nat) (x y:Operand) (t t2:TypeId):opK P T s ⟨some d,.call ⟨.builtin .append,#[x,y],#[t,t2]⟩,ty,pos,af,g⟩ K = ziG T s d t t2 (s.ev x) (s.ev y) (kk K):=(rfl)
def zw5 (p:PV) (K:FuncId→List PV→Prop):Prop:=match p with | .clo g caps=>K g caps | _=>False
theorem zqq (g:FuncId) (c:List PV) (Kc:FuncId→List PV→Prop):zw5 (.clo g c) Kc = Kc g c:=(rfl)
def zhS [zah] (P:Program) (f:FuncId) (args:List PV) (K:RV→Prop) (M:Prop):Prop:=(∃ rv,AC P f args rv∧K rv) ∨ M
theorem zak [zah] {f:FuncId} {args:List PV} {Kr:RV→Prop} {u:Dm Kr} {rv:RV} {M:Prop} (h:AC P f args rv) (hk:Kr rv):zhS P f args (kk Kr u) M:=.inl ⟨rv,h,hk⟩
def zsk [zah] (P:Program) (f:FuncId) (args raw:List PV) (dst:Option Nat) (s:St) (K:St→Prop):Prop:=zFA P s f raw dst K ∨ zDF P s f raw dst K ∨ zzT P s f args dst K ∨ askG P s f raw dst K
theorem zxi [zah] {f:FuncId} {args raw:List PV} {Ka:RV→Prop} {d:Nat} {us:Dm s} {u:Dm K} {rv:RV} (s':St) (h:AC P f args rv) (hw:Wk (zam s d rv) s') (hk:K s'):zhS P f args Ka (zsk P f args raw (some d) (kk s us) (kk K u)) :=
 .inr (.inr (.inr (.inl ⟨rv,s',h,hw,hk⟩)))
theorem zuc [zah] {f:FuncId} {args raw lent:List PV} {R0:Nat→Row} {post:(Nat→Row)→PV→Prop} {Ka:RV→Prop} {dst:Option Nat} {us:Dm s} {u:Dm K} (h:AG P f args R0 post) (rho:Nat→Option Nat) (Ln:Nat→Prop) (hl:GvL rho Ln R0 s.rw args raw) (hg:Give rho Ln R0 s.rw)
 (hk:∀ R1 p,post R1 p→∃ (rho1:Nat→Option Nat) (nv:Nat→Nat) (nl:Bool),Back rho rho1 R1 nv nl Ln R0 s.rw∧∀ S:St,After s S dst rho1 nv nl R1 p→K S):zhS P f lent Ka (zsk P f lent raw dst (kk s us) (kk K u)) :=
 .inr (.inr (.inr (.inr ⟨args,R0,post,rho,Ln,h,hl,hg,hk⟩)))
def zfT (s:St) (l:List Operand):List PV:=l.map fun x=>zb5 s.rw zeq (s.ev x)
theorem zmw:zfT s [] = []:=(rfl)
theorem zjF (x:Operand) (l:List Operand):zfT s (x :: l) = zb5 s.rw 3 (s.ev x) :: zfT s l:=(rfl)
def zud (s:St) (l:List Operand):List PV:=l.map s.ev
theorem zqr:zud s [] = []:=(rfl)
theorem zmx (x:Operand) (l:List Operand):zud s (x :: l) = s.ev x :: zud s l:=(rfl)
theorem zxj [zah] (f:Operand) (args:List Operand) (Kr:RV→Prop):zdt P s.rw s.ev f ⟨args⟩ Kr = zw5 (s.ev f) (kk fun g caps=>zhS P g (zfT s args ++ caps.map (zb5 s.rw 3)) (kk Kr) False):=by
 unfold zdt zw5 zhS
 cases s.ev f <;> first | rfl | simp [kk,zfT,zeq]
theorem zqs [zah] (f:Operand) (args:List Operand) (Kr:RV→Prop) (dst:Option Nat):((zdt P s.rw s.ev f ⟨args⟩ Kr ∨ zvJ P s f ⟨args⟩ dst K) ∨ (match s.ev f with
 | .clo g caps=>zDF P s g (args.map s.ev ++ caps) dst K ∨ zzT P s g ((args.map fun x=>zb5 s.rw zeq (s.ev x)) ++ caps.map (zb5 s.rw zeq)) dst K ∨ askG P s g (args.map s.ev ++ caps) dst K
 | _=>False)) =
 zw5 (s.ev f) (kk fun g caps=>zhS P g (zfT s args ++ caps.map (zb5 s.rw 3)) (kk Kr) (zsk P g (zfT s args ++ caps.map (zb5 s.rw 3)) (zud s args ++ caps) dst (kk s) (kk K))):=by
 unfold zdt zvJ zw5
 cases s.ev f <;> first | (simp;done) | skip
 unfold kk zhS zsk
 exact propext or_assoc
theorem zmy [zah] (d:Nat) (f:Operand) (args:List Operand) (ts:Array TypeId):zdl P T s ⟨some d,.call ⟨.value f,⟨args⟩,ts⟩,ty,pos,af,g⟩ K =
 zw5 (s.ev f) (kk fun g caps=>zhS P g (zfT s args ++ caps.map (zb5 s.rw 3)) (kk fun rv=>K (zam s d rv)) (zsk P g (zfT s args ++ caps.map (zb5 s.rw 3)) (zud s args ++ caps) (some d) (kk s) (kk K))):=zqs (P:=P) f args _ _
theorem zeC [zah] (f:Operand) (args:List Operand) (ts:Array TypeId):zdl P T s ⟨none,.call ⟨.value f,⟨args⟩,ts⟩,ty,pos,af,g⟩ K =
 zw5 (s.ev f) (kk fun g caps=>zhS P g (zfT s args ++ caps.map (zb5 s.rw 3)) (kk fun _=>K s) (zsk P g (zfT s args ++ caps.map (zb5 s.rw 3)) (zud s args ++ caps) none (kk s) (kk K))):=zqs (P:=P) f args _ _
theorem zmz [zah] (b:Builtin) (args:Array Operand) (ts:Array TypeId) (h:(match b with | .append=>false | _=>true) = true):zdl P T s ⟨dst,.call ⟨.builtin b,args,ts⟩,ty,pos,af,g⟩ K = opK P T s ⟨dst,.call ⟨.builtin b,args,ts⟩,ty,pos,af,g⟩ K:=by
 cases b <;> first | rfl | cases h
theorem zmA [zah] (d:Nat) (t:TypeId):opK P T s ⟨some d,.alloc t,ty,pos,af,g⟩ K = (0 < (T t).size∧K (zcl s d (.box t ((T t).zero.map PV.v)) fun v=>.ref d v 0)):=(rfl)
theorem zue [zah] (d:Nat) (t:TypeId) (x:Operand):opK P T s ⟨some d,.box t x,ty,pos,af,g⟩ K = zaQ s.rw (s.ev x) (kk fun c=>K (zcl s d (.box t c) fun v=>.ref d v 0)):=(rfl)
def evs (s:St) (l:List (Nat × Operand)):List PV:=l.map fun x=>s.ev x.2
theorem zuf:evs s [] = []:=(rfl)
theorem zqt (n:Nat) (x:Operand) (l:List (Nat × Operand)):evs s ((n,x) :: l) = s.ev x :: evs s l:=(rfl)
def zug (T:Tab) (s:St) (d:Nat) (kd:TK) (z n:Nat) (parts:List (Nat × Operand)) (K:St→Prop):Prop :=
 0 < z∧match kd with
 | .sli e=>0 < (T e).size∧n = parts.length∧zlk 0 parts = true∧n * (T e).size ≤ 16777216 ∧
  zjn s.rw (T e).size (evs s parts) fun c f=>d ∉ f∧K (((s.freeze f).row d ⟨(s.rw d).ver + 1,.sli e (T e).size false c⟩).put (some d) (.own d ((s.rw d).ver + 1)))
 | _=>False
theorem zeD [zah] (d:Nat) (t:TypeId) (n:Nat) (parts:List (Nat × Operand)):opK P T s ⟨some d,.buildSlice t n ⟨parts⟩,ty,pos,af,g⟩ K = zug T s d (T t).k (T t).size n parts (kk K):=(rfl)
def lit (c:List PV):List PV:=c
def zCA (a:List Int) (c:List PV):List PV:=iL a ++ c
def zCB (a:List ByteArray) (c:List PV):List PV:=sL a ++ c
def zCC (a:List Bool) (c:List PV):List PV:=bL a ++ c
def zCD (a:List (List Int)) (c:List PV):List PV:=iLL a ++ c
theorem zk3:lit [] = []:=(rfl)
theorem zk4 (n:Int) (l:List PV):lit (.v (.int .i64 n) :: l) = zCA [n] l:=(rfl)
theorem zk5 (n:ByteArray) (l:List PV):lit (.v (.string n) :: l) = zCB [n] l:=(rfl)
theorem zhb (n:Bool) (l:List PV):lit (.v (.bool n) :: l) = zCC [n] l:=(rfl)
theorem zqu (n:List Int) (l:List PV):lit (.sl false 1 (iL n) :: l) = zCD [n] l:=(rfl)
theorem zhc (a:List Int):zCA a [] = iL a:=List.append_nil _
theorem zhd (a:List ByteArray):zCB a [] = sL a:=List.append_nil _
theorem zhe (a:List Bool):zCC a [] = bL a:=List.append_nil _
theorem zhf (a:List (List Int)):zCD a [] = iLL a:=List.append_nil _
theorem ze8 (a:List Int) (n:Int) (l:List PV):zCA a (.v (.int .i64 n) :: l) = zCA (a ++ [n]) l:=by simp [zCA,iL]
theorem ze9 (a:List ByteArray) (n:ByteArray) (l:List PV):zCB a (.v (.string n) :: l) = zCB (a ++ [n]) l:=by simp [zCB,sL]
theorem zfa (a:List Bool) (n:Bool) (l:List PV):zCC a (.v (.bool n) :: l) = zCC (a ++ [n]) l:=by simp [zCC,bL]
theorem zfb (a:List (List Int)) (n:List Int) (l:List PV):zCD a (.sl false 1 (iL n) :: l) = zCD (a ++ [n]) l:=by simp [zCD,iLL]
theorem zjG (d e n:Nat) (parts:List (Nat × Operand)) (h2:(T e).size = 1) :
 zug T s d (.sli e) 1 n parts K = (n = parts.length∧zlk 0 parts = true∧n ≤ 16777216∧zjn s.rw 1 (evs s parts) (kk fun c f=>d ∉ f∧K (((s.freeze f).row d ⟨(s.rw d).ver + 1,.sli e 1 false (lit c)⟩).put (some d) (.own d ((s.rw d).ver + 1))))):=by
 unfold zug kk
 simp only [h2,Nat.one_pos,true_and,Nat.mul_one]
 rfl
theorem zmB (i:Nat):zlk i [] = true:=(rfl)
theorem zjH (i j:Nat) (x:Operand) (l:List (Nat × Operand)):zlk i ((j,x) :: l) = (j == i && zlk (i + 1) l):=(rfl)
theorem zmC (rw:Nat→Row) (es:Nat) (Kp:List PV→List Nat→Prop):zjn rw es [] (kk Kp) = Kp [] []:=(rfl)
theorem zjI (rw:Nat→Row) (es:Nat) (p:PV) (ps:List PV) (Kp:List PV→List Nat→Prop):zjn rw es (p :: ps) (kk Kp) = zck rw p (kk fun c f=>c.length = es∧zjn rw es ps (kk fun cs fs=>Kp (c ++ cs) (f ++ fs))):=(rfl)
theorem zmD [zah] (t:TypeId) (ad x:Operand):opK P T s ⟨none,.store t ad x,ty,pos,af,g⟩ K = zn8 T s t (s.ev ad) (s.ev x) (kk K):=by
 show ((none:Option Nat) = none∧zn8 T s t (s.ev ad) (s.ev x) K) = _
 simp [kk]
def zzE (T:Tab) (t:TypeId) (l c:PV) (K:TypeId→List PV→Prop):Prop :=
 match (T t).k,l,c with
 | .sli e,.v (.int _ nl),.v (.int _ nc)=>0 < (T t).size∧(T e).size = 1∧(match (T e).zero with
  | [z]=>0 ≤ nl∧nl ≤ nc∧((T e).bytes:Int) * nc ≤ 281474976710656∧nc ≤ 9223372036854775807∧K e (List.replicate nl.toNat (.v z))
  | _=>False)
 | _,_,_=>False
theorem zqv [zah] (d:Nat) (t:TypeId) (l c:Operand):opK P T s ⟨some d,.makeSlice t l c,ty,pos,af,g⟩ K = zzE T t (s.ev l) (s.ev c) (kk fun e cs=>K (zcl s d (.sli e 1 false cs) fun v=>.own d v)):=by
 unfold zzE kk
 simp only [opK]
 generalize (T t).k = a
 generalize s.ev l = b
 generalize s.ev c = e
 cases a <;> first | rfl | skip
 cases b <;> first | rfl | skip
 rename_i v
 cases v <;> first | rfl | skip
 cases e <;> first | rfl | skip
 rename_i v
 cases v <;> rfl
def zzF (T:Tab) (kd:TK) (z:Nat) (l c:PV) (K:TypeId→List PV→Prop):Prop :=
 match kd,l,c with
 | .sli e,.v (.int _ nl),.v (.int _ nc)=>0 < z∧(T e).size = 1∧(match (T e).zero with
  | [z]=>0 ≤ nl∧nl ≤ nc∧((T e).bytes:Int) * nc ≤ 281474976710656∧nc ≤ 9223372036854775807∧K e (List.replicate nl.toNat (.v z))
  | _=>False)
 | _,_,_=>False
theorem zuh (t:TypeId) (l c:PV) (Kc:TypeId→List PV→Prop):zzE T t l c Kc = zzF T (T t).k (T t).size l c Kc:=(rfl)
def zzG (zs:List Value) (K:Value→Prop):Prop:=match zs with | [z]=>K z | _=>False
theorem zmE (z:Value) (Kz:Value→Prop):zzG [z] Kz = Kz z:=(rfl)
theorem zmF {e:TypeId} {k1 k2:IntKind} {nl nc:Int} {Kc:TypeId→List PV→Prop} (h2:(T e).size = 1) :
 zzF T (.sli e) 1 (.v (.int k1 nl)) (.v (.int k2 nc)) Kc = zzG (T e).zero (kk fun z=>0 ≤ nl∧nl ≤ nc∧((T e).bytes:Int) * nc ≤ 281474976710656∧nc ≤ 9223372036854775807∧Kc e (List.replicate nl.toNat (.v z))):=by
 unfold zzF zzG kk
 simp only [h2,Nat.one_pos,true_and]
def zBJ (T:Tab) (s:St) (t:TypeId) (x:PV) (lo hi mx:Option Operand) (K:List Nat→PV→Prop):Prop :=
 match x with
 | .own k ver=>(match (s.rw k).kind with
  | .sli _ _ false _=>zbg T (s.freeze [k]).rw s.ev t (.own k ver) lo hi mx (K [k])
  | _=>zbg T s.rw s.ev t (.own k ver) lo hi mx (K []))
 | x=>zbg T s.rw s.ev t x lo hi mx (K [])
theorem zmG [zah] (t:TypeId) (x:Operand) (lo hi mx:Option Operand):opK P T s ⟨dst,.slice t x lo hi mx,ty,pos,af,g⟩ K = zBJ T s t (s.ev x) lo hi mx (kk fun fz p=>K ((s.freeze fz).put dst p)):=by
 have e:s.freeze [] = s:=St.freeze_nil s
 have h:∀ q,s.ev x = q→(match q with
  | .own k _=>(match (s.rw k).kind with
   | .sli _ _ false _=>zgV T (s.freeze [k]).rw s.ev (.slice t x lo hi mx) fun p=>K ((s.freeze [k]).put dst p)
   | _=>zgV T s.rw s.ev (.slice t x lo hi mx) fun p=>K (s.put dst p))
  | _=>zgV T s.rw s.ev (.slice t x lo hi mx) fun p=>K (s.put dst p)) = zBJ T s t q lo hi mx fun fz p=>K ((s.freeze fz).put dst p):=by
  intro q hq
  unfold zBJ
  cases q <;> simp only [zgV,hq,e]
 exact h _ rfl
end
def zBK (s:St) (l:List (Nat × Operand)):List (Nat × PV):=l.map fun x=>(x.1,s.ev x.2)
theorem zqw:zBK s [] = []:=(rfl)
theorem zmH (n:Nat) (x:Operand) (l:List (Nat × Operand)):zBK s ((n,x) :: l) = (n,s.ev x) :: zBK s l:=(rfl)
def zfc (T:Tab):List (Nat × TypeId)→Prop | []=>True | x :: fs=>0 < (T x.2).size∧zfc T fs
theorem zjJ:zfc T [] = True:=(rfl)
theorem zhT (o:Nat) (t:TypeId) (fs:List (Nat × TypeId)):zfc T ((o,t) :: fs) = (0 < (T t).size∧zfc T fs):=(rfl)
theorem zui:∀ fs:List (Nat × TypeId),(∀ x ∈ fs,0 < (T x.2).size) = zfc T fs:=by
 intro fs
 induction fs with
 | nil=>simp [zfc]
 | cons x fs ih=>rw [zfc,← ih];simp
def zCE (T:Tab) (rw:Nat→Row) (kd:TK) (z:Nat) (zs:List Value) (pp:List (Nat × PV)) (K:PV→Prop):Prop :=
 0 < z∧match kd with
 | .struct fs=>zfc T fs∧zcu T rw fs pp (zs.map PV.v) fun c=>K (.ag c)
 | _=>False
theorem zyQ [zah] (t:TypeId) (parts:List (Nat × Operand)) (Kp:PV→Prop):zeN T s.rw s.ev t ⟨parts⟩ Kp = zCE T s.rw (T t).k (T t).size (T t).zero (zBK s parts) (kk Kp):=by
 unfold zeN zCE kk
 cases (T t).k <;> first | rfl | skip
 simp only [zui]
 rfl
theorem zhU (rw:Nat→Row) (fs:List (Nat × TypeId)) (z:Nat) (zs:List Value) (pp:List (Nat × PV)) (Kp:PV→Prop) :
 zCE T rw (.struct fs) z zs pp (kk Kp) = (0 < z∧zfc T fs∧zcu T rw fs pp (zs.map PV.v) (kk fun c=>Kp (.ag c))):=(rfl)
theorem zmI (rw:Nat→Row) (fs:List (Nat × TypeId)) (c:List PV) (Kc:List PV→Prop):zcu T rw fs [] c (kk Kc) = Kc c:=(rfl)
def zDN (T:Tab) (rw:Nat→Row) (fs:List (Nat × TypeId)) (x:Option (Nat × TypeId)) (p:PV) (rest:List (Nat × PV)) (cells:List PV) (Kc:List PV→Prop):Prop :=
 match x with
 | some (off,ft)=>zaQ rw p fun c=>c.length = (T ft).size∧off + c.length ≤ cells.length∧zcu T rw fs rest (spl cells off c) Kc
 | none=>False
theorem zjK (rw:Nat→Row) (fs:List (Nat × TypeId)) (i:Nat) (p:PV) (rest:List (Nat × PV)) (c:List PV) (Kc:List PV→Prop):zcu T rw fs ((i,p) :: rest) c (kk Kc) = zDN T rw fs fs[i]? p rest c (kk Kc):=by
 unfold zDN kk
 rw [zcu]
 cases fs[i]? <;> rfl
theorem zmJ (rw:Nat→Row) (fs:List (Nat × TypeId)) (off:Nat) (ft:TypeId) (p:PV) (rest:List (Nat × PV)) (cells:List PV) (Kc:List PV→Prop) :
 zDN T rw fs (some (off,ft)) p rest cells (kk Kc) = zaQ rw p (kk fun c=>c.length = (T ft).size∧off + c.length ≤ cells.length∧zcu T rw fs rest (spl cells off c) (kk Kc)):=(rfl)
section
variable {dst:Option Nat} {ty:TypeId} {pos:String} {af:Array Edge} {g:Option (Nat × Bool)}
theorem zmK [zah] (t:TypeId) (parts:List (Nat × Operand)):opK P T s ⟨dst,.build t ⟨parts⟩,ty,pos,af,g⟩ K = zCE T s.rw (T t).k (T t).size (T t).zero (zBK s parts) (kk fun p=>K (s.put dst p)):=by
 rw [← zyQ];rfl
def ncD (rw:Nat→Row) (kd:TK) (z:Nat) (x:PV) (Kb:Bool→Prop):Prop:=0 < z∧match kd with | .sli _=>slK rw x fun _ _ c=>Kb false∧(c = []→Kb true) | _=>False
theorem zhV [zah] (t t2:TypeId) (x:Operand):zdl P T s ⟨dst,.binOp .eql t x (.const (.slice none 0 0)) t2,ty,pos,af,g⟩ K = ncD s.rw (T t).k (T t).size (s.ev x) (kk fun b=>K (s.put dst (.v (.bool b)))):=(rfl)
theorem zhW [zah] (t t2:TypeId) (x:Operand):zdl P T s ⟨dst,.binOp .neq t x (.const (.slice none 0 0)) t2,ty,pos,af,g⟩ K = ncD s.rw (T t).k (T t).size (s.ev x) (kk fun b=>K (s.put dst (.v (.bool !b)))):=(rfl)
theorem zyR (rw:Nat→Row) (e z z':Nat) (fr:Bool) (c:List PV) (Kb:Bool→Prop):ncD rw (.sli e) z (.sl fr z' c) (kk Kb) = (0 < z∧Kb false∧(c = []→Kb true)):=(rfl)
def zsl (r:Row) (ver:Nat) (Kb:Bool→Prop):Prop:=r.ver = ver∧match r.kind with | .nil=>Kb false∧Kb true | .sli _ _ _ c=>Kb false∧(c = []→Kb true) | _=>False
theorem zuj (rw:Nat→Row) (e z j v:Nat) (Kb:Bool→Prop):ncD rw (.sli e) z (.own j v) (kk Kb) = (0 < z∧zsl (rw j) v (kk Kb)):=by
 unfold ncD zsl kk slK
 dsimp only
 cases (rw j).kind <;> simp
theorem zmL (ver e sz:Nat) (fz:Bool) (c:List PV) (Kb:Bool→Prop):zsl ⟨ver,.sli e sz fz c⟩ ver (kk Kb) = (Kb false∧(c = []→Kb true)):=by simp [zsl,kk]
theorem zmM (ver:Nat) (Kb:Bool→Prop):zsl ⟨ver,.nil⟩ ver (kk Kb) = (Kb false∧Kb true):=by simp [zsl,kk]
theorem zqx [zah] (x:Operand):zdl P T s ⟨dst,.move x,ty,pos,af,g⟩ K = opK P T s ⟨dst,.move x,ty,pos,af,g⟩ K:=(rfl)
theorem zjL [zah] (x:Operand):zdl P T s ⟨dst,.assign x,ty,pos,af,g⟩ K = opK P T s ⟨dst,.assign x,ty,pos,af,g⟩ K:=(rfl)
theorem zqy [zah] (c x y:Operand):zdl P T s ⟨dst,.pick c x y,ty,pos,af,g⟩ K = opK P T s ⟨dst,.pick c x y,ty,pos,af,g⟩ K:=(rfl)
theorem zyS [zah] (op:UnOp) (t:TypeId) (x:Operand):zdl P T s ⟨dst,.unOp op t x,ty,pos,af,g⟩ K = opK P T s ⟨dst,.unOp op t x,ty,pos,af,g⟩ K:=(rfl)
theorem zhX [zah] (a b:TypeId) (x:Operand):zdl P T s ⟨dst,.convert a b x,ty,pos,af,g⟩ K = opK P T s ⟨dst,.convert a b x,ty,pos,af,g⟩ K:=(rfl)
theorem zqz [zah] (t:TypeId) (x:Operand):zdl P T s ⟨dst,.load t x,ty,pos,af,g⟩ K = opK P T s ⟨dst,.load t x,ty,pos,af,g⟩ K:=(rfl)
theorem zfd [zah] (t:TypeId) (x:Operand) (f:Nat):zdl P T s ⟨dst,.fieldAddr t x f,ty,pos,af,g⟩ K = opK P T s ⟨dst,.fieldAddr t x f,ty,pos,af,g⟩ K:=(rfl)
theorem zmN [zah] (t:TypeId) (x:Operand) (f:Nat):zdl P T s ⟨dst,.field t x f,ty,pos,af,g⟩ K = opK P T s ⟨dst,.field t x f,ty,pos,af,g⟩ K:=(rfl)
theorem zfe [zah] (t:TypeId) (x i:Operand):zdl P T s ⟨dst,.indexAddr t x i,ty,pos,af,g⟩ K = opK P T s ⟨dst,.indexAddr t x i,ty,pos,af,g⟩ K:=(rfl)
theorem zmO [zah] (t:TypeId) (x i:Operand):zdl P T s ⟨dst,.index t x i,ty,pos,af,g⟩ K = opK P T s ⟨dst,.index t x i,ty,pos,af,g⟩ K:=(rfl)
theorem zhY [zah] (x:Operand) (i:Nat):zdl P T s ⟨dst,.extract x i,ty,pos,af,g⟩ K = opK P T s ⟨dst,.extract x i,ty,pos,af,g⟩ K:=(rfl)
theorem zgo [zah] (x:Operand):zdl P T s ⟨dst,.nilCheck x,ty,pos,af,g⟩ K = opK P T s ⟨dst,.nilCheck x,ty,pos,af,g⟩ K:=(rfl)
theorem zgp [zah] (f:Fn) (fi caps:Array Operand):zdl P T s ⟨dst,.makeFunc f fi caps,ty,pos,af,g⟩ K = opK P T s ⟨dst,.makeFunc f fi caps,ty,pos,af,g⟩ K:=(rfl)
theorem zmP [zah] (t:TypeId):zdl P T s ⟨dst,.alloc t,ty,pos,af,g⟩ K = opK P T s ⟨dst,.alloc t,ty,pos,af,g⟩ K:=(rfl)
theorem zuk [zah] (t:TypeId) (x:Operand):zdl P T s ⟨dst,.box t x,ty,pos,af,g⟩ K = opK P T s ⟨dst,.box t x,ty,pos,af,g⟩ K:=(rfl)
theorem zjM [zah] (t:TypeId) (n:Nat):zdl P T s ⟨dst,.buildSlice t n ⟨[]⟩,ty,pos,af,g⟩ K = opK P T s ⟨dst,.buildSlice t n ⟨[]⟩,ty,pos,af,g⟩ K:=(rfl)
theorem zjN [zah] (t:TypeId) (n:Nat) (p q:Nat × Operand) (l:List (Nat × Operand)):zdl P T s ⟨dst,.buildSlice t n ⟨p :: q :: l⟩,ty,pos,af,g⟩ K = opK P T s ⟨dst,.buildSlice t n ⟨p :: q :: l⟩,ty,pos,af,g⟩ K:=(rfl)
def zyT (T:Tab) (s:St) (d:Nat) (t:TypeId) (n i:Nat) (p:PV) (Kt:St→Prop) (A:Prop):Prop :=
 match p with
 | .own k ver=>(match (s.rw k).kind with | .tab _ _=>ziB T s d t n i k ver Kt | .sli _ _ _ _=>A ∨ ziB T s d t n i k ver Kt | _=>A)
 | _=>A
theorem zjO [zah] (d:Nat) (t:TypeId) (n i:Nat) (x:Operand):zdl P T s ⟨some d,.buildSlice t n ⟨[(i,x)]⟩,ty,pos,af,g⟩ K =
 zyT T s d t n i (s.ev x) (kk K) (kk (opK P T s ⟨some d,.buildSlice t n ⟨[(i,x)]⟩,ty,pos,af,g⟩ K)):=by
 unfold zdl zyT kk
 dsimp only
 cases s.ev x <;> rfl
theorem zyU (d:Nat) (t:TypeId) (n i:Nat) (x:Value) (A:Prop):zyT T s d t n i (.v x) (kk K) (kk A) = A:=(rfl)
theorem zul (d:Nat) (t:TypeId) (n i:Nat) (fr:Bool) (z:Nat) (c:List PV) (A:Prop):zyT T s d t n i (.sl fr z c) (kk K) (kk A) = A:=(rfl)
theorem zum (d:Nat) (t:TypeId) (n i:Nat) (c:List PV) (A:Prop):zyT T s d t n i (.ag c) (kk K) (kk A) = A:=(rfl)
theorem zmQ (d:Nat) (t:TypeId) (n i:Nat) (fr:Bool) (c:List PV) (o:Nat) (A:Prop):zyT T s d t n i (.eref fr c o) (kk K) (kk A) = A:=(rfl)
theorem zqA (d:Nat) (t:TypeId) (n i:Nat) (j v o:Nat) (A:Prop):zyT T s d t n i (.ref j v o) (kk K) (kk A) = A:=(rfl)
def zqB (T:Tab) (r:Row) (s:St) (d:Nat) (t:TypeId) (n i k ver:Nat) (Kt:St→Prop) (A:Prop):Prop:=match r.kind with | .tab _ _=>ziB T s d t n i k ver Kt | .sli _ _ _ _=>A ∨ ziB T s d t n i k ver Kt | _=>A
theorem zqC (d:Nat) (t:TypeId) (n i k ver:Nat) (A:Prop):zyT T s d t n i (.own k ver) (kk K) (kk A) = zqB T (s.rw k) s d t n i k ver (kk K) (kk A):=(rfl)
theorem zjP (d:Nat) (t:TypeId) (n i k ver v:Nat) (A:Prop):zqB T ⟨v,.nil⟩ s d t n i k ver (kk K) (kk A) = A:=(rfl)
def zfU (T:Tab) (s:St) (d:Nat) (kd:TK) (z n i k ver:Nat) (r:Row) (K:St→Prop):Prop:=0 < z∧n = 1∧i = 0∧r.ver = ver∧r.kind.slice = true∧d ≠ k∧(match kd with
 | .sli e=>(T e).size = 1∧K ((s.row d ⟨(s.rw d).ver + 1,.tab e [.own k ver]⟩).put (some d) (.own d ((s.rw d).ver + 1)))
 | _=>False)
def orB (A B:Prop):Prop:=A ∨ B
theorem zoL {A B:Prop} {u:Dm A} {v:Dm B} (h:B):orB (kk A u) (kk B v):=.inr h
theorem zjQ (d:Nat) (t:TypeId) (n i k ver v e z:Nat) (fz:Bool) (c:List PV) (A:Prop):zqB T ⟨v,.sli e z fz c⟩ s d t n i k ver (kk K) (kk A) = orB (kk A) (kk (zfU T s d (T t).k (T t).size n i k ver (s.rw k) K)):=(rfl)
theorem zhZ (d e k ver e' z:Nat) (fz:Bool) (c:List PV) (h:(T e).size = 1):zfU T s d (.sli e) 1 1 0 k ver ⟨ver,.sli e' z fz c⟩ K = (d ≠ k∧K ((s.row d ⟨(s.rw d).ver + 1,.tab e [.own k ver]⟩).put (some d) (.own d ((s.rw d).ver + 1)))):=by
 simp only [zfU,h,RK.slice,Nat.one_pos,true_and]
theorem zjR (d:Nat) (t:TypeId) (n i k ver v e:Nat) (c:List PV) (A:Prop):zqB T ⟨v,.tab e c⟩ s d t n i k ver (kk K) (kk A) = zfU T s d (T t).k (T t).size n i k ver (s.rw k) K:=(rfl)
theorem zh0 (d e k ver e':Nat) (c:List PV) (h:(T e).size = 1):zfU T s d (.sli e) 1 1 0 k ver ⟨ver,.tab e' c⟩ K = (d ≠ k∧K ((s.row d ⟨(s.rw d).ver + 1,.tab e [.own k ver]⟩).put (some d) (.own d ((s.rw d).ver + 1)))):=by
 simp only [zfU,h,RK.slice,Nat.one_pos,true_and]
def zyV (T:Tab) (s:St) (d:Nat) (t t2:TypeId) (x:PV) (y:PV) (Kt:St→Prop) (A:Prop):Prop :=
 match x with
 | .own k ver=>(match (s.rw k).kind with | .tab e c=>zDE T s d t t2 k ver e c y Kt | _=>A)
 | _=>A
def zBL (T:Tab) (s:St) (d:Nat) (t t2:TypeId) (x:PV) (y:PV) (Kt:St→Prop) (A:Prop):Prop :=
 match y with
 | .v (.string b)=>zpg T s d t t2 x b Kt
 | _=>zyV T s d t t2 x y Kt A
theorem zjS [zah] (d:Nat) (x y:Operand) (t t2:TypeId):zdl P T s ⟨some d,.call ⟨.builtin .append,⟨[x,y]⟩,⟨[t,t2]⟩⟩,ty,pos,af,g⟩ K =
 zBL T s d t t2 (s.ev x) (s.ev y) (kk K) (kk (opK P T s ⟨some d,.call ⟨.builtin .append,⟨[x,y]⟩,⟨[t,t2]⟩⟩,ty,pos,af,g⟩ K)):=by
 unfold zdl zBL zyV kk
 dsimp only
 cases s.ev y with
 | v z=>cases z <;> first | rfl | (cases s.ev x <;> rfl)
 | _=>cases s.ev x <;> rfl
theorem zqD (d:Nat) (t t2:TypeId) (x:PV) (k ver:Nat) (A:Prop):zBL T s d t t2 x (.own k ver) (kk K) (kk A) = zyV T s d t t2 x (.own k ver) (kk K) (kk A):=(rfl)
theorem zun (d:Nat) (t t2:TypeId) (x:PV) (fr:Bool) (z:Nat) (c:List PV) (A:Prop):zBL T s d t t2 x (.sl fr z c) (kk K) (kk A) = zyV T s d t t2 x (.sl fr z c) (kk K) (kk A):=(rfl)
theorem zjT (d:Nat) (t t2:TypeId) (x:PV) (a:Option Addr) (n c:Nat) (A:Prop):zBL T s d t t2 x (.v (.slice a n c)) (kk K) (kk A) = zyV T s d t t2 x (.v (.slice a n c)) (kk K) (kk A):=(rfl)
def zuo (T:Tab) (r:Row) (s:St) (d:Nat) (kd:TK) (z:Nat) (kd2:TK) (z2 k ver:Nat) (b:ByteArray) (K:St→Prop):Prop :=
 0 < z∧0 < z2∧kd2 = .str∧match kd with
 | .sli e=>(T e).size = 1∧0 < (T e).bytes∧(r.ver = ver∧(match r.kind with
  | .nil=>b.size * (T e).bytes ≤ 140737488355328∧K (zcv s d k (.sli e (T e).size false (zrV b)))
  | .sli e' sz' false c=>e' = e∧sz' = (T e).size∧(c.length + b.size) * (T e).bytes ≤ 140737488355328∧K (zcv s d k (.sli e (T e).size false (c ++ zrV b)))
  | _=>False))
 | _=>False
theorem zqE (d:Nat) (t t2:TypeId) (k ver:Nat) (b:ByteArray) (A:Prop):zBL T s d t t2 (.own k ver) (.v (.string b)) (kk K) (kk A) = zuo T (s.rw k) s d (T t).k (T t).size (T t2).k (T t2).size k ver b (kk K):=(rfl)
theorem zmR (d k ver e:Nat) (c:List PV) (b:ByteArray) (h:(T e).size = 1) (h2:(T e).bytes = 1):zuo T ⟨ver,.sli e 1 false c⟩ s d (.sli e) 1 .str 1 k ver b (kk K) =
 (c.length + b.size ≤ 140737488355328∧K (zcv s d k (.sli e 1 false (c ++ zrV b)))):=by
 simp only [zuo,h,h2,Nat.one_pos,true_and,kk,Nat.mul_one]
theorem zmS (d k ver e:Nat) (b:ByteArray) (h:(T e).size = 1) (h2:(T e).bytes = 1):zuo T ⟨ver,.nil⟩ s d (.sli e) 1 .str 1 k ver b (kk K) =
 (b.size ≤ 140737488355328∧K (zcv s d k (.sli e 1 false (zrV b)))):=by
 simp only [zuo,h,h2,Nat.one_pos,true_and,kk,Nat.mul_one]
theorem zyW (d:Nat) (t t2:TypeId) (x:Value) (y:PV) (A:Prop):zyV T s d t t2 (.v x) y (kk K) (kk A) = A:=(rfl)
theorem zup (d:Nat) (t t2:TypeId) (fr:Bool) (z:Nat) (c:List PV) (y:PV) (A:Prop):zyV T s d t t2 (.sl fr z c) y (kk K) (kk A) = A:=(rfl)
def zk6 (T:Tab) (r:Row) (s:St) (d:Nat) (t t2:TypeId) (k ver:Nat) (y:PV) (Kt:St→Prop) (A:Prop):Prop:=match r.kind with | .tab e c=>zDE T s d t t2 k ver e c y Kt | _=>A
theorem zqF (d:Nat) (t t2:TypeId) (k ver:Nat) (y:PV) (A:Prop):zyV T s d t t2 (.own k ver) y (kk K) (kk A) = zk6 T (s.rw k) s d t t2 k ver y (kk K) (kk A):=(rfl)
theorem zh1 (d:Nat) (t t2:TypeId) (k ver v e z:Nat) (fz:Bool) (c:List PV) (y:PV) (A:Prop):zk6 T ⟨v,.sli e z fz c⟩ s d t t2 k ver y (kk K) (kk A) = A:=(rfl)
theorem zh2 (d:Nat) (t t2:TypeId) (k ver v:Nat) (y:PV) (A:Prop):zk6 T ⟨v,.nil⟩ s d t t2 k ver y (kk K) (kk A) = A:=(rfl)
def zzH (T:Tab) (s:St) (d:Nat) (kd:TK) (z k ver e:Nat) (r:Row) (c:List PV) (y:PV) (K:St→Prop):Prop :=
 0 < z∧kd = .sli e∧(T e).size = 1∧0 < (T e).bytes∧r.ver = ver∧zsJ s.rw y fun news=>(c.length + news.length) * (T e).bytes ≤ 140737488355328∧K (zcv s d k (.tab e (c ++ news)))
theorem zh3 (d:Nat) (t:TypeId) (k ver v e:Nat) (c:List PV) (y:PV) (A:Prop):zk6 T ⟨v,.tab e c⟩ s d t t k ver y (kk K) (kk A) = zzH T s d (T t).k (T t).size k ver e (s.rw k) c y (kk K):=propext ⟨fun h=>h.2,fun h=>⟨rfl,h⟩⟩
theorem zmT (d k ver e e':Nat) (c c':List PV) (y:PV) (h:(T e).size = 1) (h2:0 < (T e).bytes):zzH T s d (.sli e) 1 k ver e ⟨ver,.tab e' c'⟩ c y (kk K) =
 zsJ s.rw y (kk fun news=>(c.length + news.length) * (T e).bytes ≤ 140737488355328∧K (zcv s d k (.tab e (c ++ news)))):=by
 simp only [zzH,h,h2,Nat.one_pos,true_and,kk]
def zmU (r:Row) (rw:Nat→Row) (v:Nat) (Kc:List PV→Prop):Prop:=r.ver = v∧(match r.kind with
 | .sli _ sz _ c=>sz = 1∧(∀ p ∈ c,isV p = true)∧Kc c
 | .tab _ c=>(∀ p ∈ c,zjf rw p)∧Kc c
 | _=>False)
theorem zmV (rw:Nat→Row) (j v:Nat) (Kc:List PV→Prop):zsJ rw (.own j v) (kk Kc) = zmU (rw j) rw v (kk Kc):=(rfl)
theorem zmW [zah] (rw:Nat→Row) (v e:Nat) (fz:Bool) (xs:List Int) (Kc:List PV→Prop):zmU ⟨v,.sli e 1 fz (iL xs)⟩ rw v (kk Kc) = Kc (iL xs):=by
 have:=ztI xs
 simp only [zmU,this,true_and,kk]
theorem zjU (rw:Nat→Row) (v e k ver:Nat) (Kc:List PV→Prop):zmU ⟨v,.tab e [.own k ver]⟩ rw v (kk Kc) = (zjf rw (.own k ver)∧Kc [.own k ver]):=by
 simp only [zmU,true_and,kk,List.mem_singleton,forall_eq]
theorem zmX [zah] (t:TypeId) (parts:Array (Nat × Operand)):zdl P T s ⟨dst,.build t parts,ty,pos,af,g⟩ K = opK P T s ⟨dst,.build t parts,ty,pos,af,g⟩ K:=(rfl)
theorem zmY [zah] (t:TypeId) (ad x:Operand):zdl P T s ⟨dst,.store t ad x,ty,pos,af,g⟩ K = opK P T s ⟨dst,.store t ad x,ty,pos,af,g⟩ K:=(rfl)
theorem zqG [zah] (t:TypeId) (l c:Operand):zdl P T s ⟨dst,.makeSlice t l c,ty,pos,af,g⟩ K = opK P T s ⟨dst,.makeSlice t l c,ty,pos,af,g⟩ K:=(rfl)
theorem zmZ [zah] (t:TypeId) (x:Operand) (lo hi mx:Option Operand):zdl P T s ⟨dst,.slice t x lo hi mx,ty,pos,af,g⟩ K = opK P T s ⟨dst,.slice t x lo hi mx,ty,pos,af,g⟩ K:=(rfl)
theorem zh4 [zah] (op:BinOp) (t t2:TypeId) (x:Operand) (y:Nat):zdl P T s ⟨dst,.binOp op t x (.tmp y) t2,ty,pos,af,g⟩ K = opK P T s ⟨dst,.binOp op t x (.tmp y) t2,ty,pos,af,g⟩ K:=by cases op <;> rfl
theorem zh5 [zah] (op:BinOp) (t t2:TypeId) (x:Operand) (k:IntKind) (n:Int):zdl P T s ⟨dst,.binOp op t x (.const (.int k n)) t2,ty,pos,af,g⟩ K = opK P T s ⟨dst,.binOp op t x (.const (.int k n)) t2,ty,pos,af,g⟩ K:=by cases op <;> rfl
theorem zgq [zah] (op:BinOp) (t t2:TypeId) (x:Operand) (b:Bool):zdl P T s ⟨dst,.binOp op t x (.const (.bool b)) t2,ty,pos,af,g⟩ K = opK P T s ⟨dst,.binOp op t x (.const (.bool b)) t2,ty,pos,af,g⟩ K:=by cases op <;> rfl
theorem zeE [zah] (op:BinOp) (t t2:TypeId) (x:Operand) (b:ByteArray):zdl P T s ⟨dst,.binOp op t x (.const (.string b)) t2,ty,pos,af,g⟩ K = opK P T s ⟨dst,.binOp op t x (.const (.string b)) t2,ty,pos,af,g⟩ K:=by cases op <;> rfl
end
section
variable {dst:Option Nat} {ty:TypeId} {pos:String} {af:Array Edge} {g:Option (Nat × Bool)} {Ke:Ent→St→Prop}
theorem zuq [zah] (x:Operand):dK P T s ⟨dst,.move x,ty,pos,af,g⟩ (kk Ke) = evK (s.ev x) (kk fun p=>Ke ⟨[],.ids []⟩ (s.put dst p)):=(rfl)
theorem zm0 [zah] (x:Operand):dK P T s ⟨dst,.assign x,ty,pos,af,g⟩ (kk Ke) = evK (s.ev x) (kk fun p=>Ke ⟨[],.ids []⟩ (s.put dst p)):=(rfl)
theorem zur [zah] (c x y:Operand):dK P T s ⟨dst,.pick c x y,ty,pos,af,g⟩ (kk Ke) = zxh (s.ev c) (kk (evK (s.ev x) (kk fun p=>Ke ⟨[],.ids []⟩ (s.put dst p)))) (kk (evK (s.ev y) (kk fun p=>Ke ⟨[],.ids []⟩ (s.put dst p)))):=(rfl)
theorem zyX [zah] (op:BinOp) (t t2:TypeId) (x y:Operand):dK P T s ⟨dst,.binOp op t x y t2,ty,pos,af,g⟩ (kk Ke) = zcn T op t (s.ev x) (s.ev y) (kk fun p=>Ke ⟨[],.ids []⟩ (s.put dst p)):=(rfl)
theorem zCF [zah] (op:UnOp) (t:TypeId) (x:Operand):dK P T s ⟨dst,.unOp op t x,ty,pos,af,g⟩ (kk Ke) = unK op (s.ev x) (kk fun p=>Ke ⟨[],.ids []⟩ (s.put dst p)):=(rfl)
theorem zjV [zah] (a b:TypeId) (x:Operand):dK P T s ⟨dst,.convert a b x,ty,pos,af,g⟩ (kk Ke) = zct [s.ev x] [] (kk fun l=>zfu T s.rw a b (s.ev x) (kk fun p=>Ke ⟨l,.ids []⟩ (s.put dst p))):=(rfl)
theorem zus [zah] (t:TypeId) (x:Operand):dK P T s ⟨dst,.load t x,ty,pos,af,g⟩ (kk Ke) = zct [s.ev x] [] (kk fun l=>zoD s.rw (s.ev x) (kk fun m c off=>ldK T t m c off (kk fun p=>Ke ⟨l,.ids []⟩ (s.put dst p)))):=(rfl)
theorem zgr [zah] (t:TypeId) (x:Operand) (f:Nat):dK P T s ⟨dst,.fieldAddr t x f,ty,pos,af,g⟩ (kk Ke) =
 zct [s.ev x] [] (kk fun l=>zcW T t f (kk fun o _=>ziN (s.ev x) = true∧zcI s.rw (s.ev x) (kk (evK (zdg (s.ev x) o) (kk fun p=>Ke ⟨l,.ids []⟩ (s.put dst p)))))):=(rfl)
theorem zqH [zah] (t:TypeId) (x:Operand) (f:Nat):dK P T s ⟨dst,.field t x f,ty,pos,af,g⟩ (kk Ke) =
 agK (s.ev x) (kk fun c=>zcW T t f (kk fun o ft=>ldK T ft .asis c o (kk fun p=>Ke ⟨[],.ids []⟩ (s.put dst p)))):=zhQ (P:=P) (T:=T) (s:=s) (K:=Ke ⟨[],.ids []⟩) (dst:=dst) (ty:=ty) (pos:=pos) (af:=af) (g:=g) t x f
theorem zgs [zah] (t:TypeId) (x y:Operand):dK P T s ⟨dst,.indexAddr t x y,ty,pos,af,g⟩ (kk Ke) = zct [s.ev x,s.ev y] [] (kk fun l=>za3 T s.rw t (s.ev x) (s.ev y) (kk fun p=>Ke ⟨l,.ids []⟩ (s.put dst p))):=(rfl)
theorem zqI [zah] (t:TypeId) (x y:Operand):dK P T s ⟨dst,.index t x y,ty,pos,af,g⟩ (kk Ke) = zqp T t (s.ev x) (s.ev y) (kk fun p=>Ke ⟨[],.ids []⟩ (s.put dst p)):=(rfl)
theorem zjW [zah] (x:Operand) (n:Nat):dK P T s ⟨dst,.extract x n,ty,pos,af,g⟩ (kk Ke) = zDM (s.ev x) (kk fun ps=>n < ps.length∧evK (ps.getD n .junk) (kk fun p=>Ke ⟨[],.ids []⟩ (s.put dst p))):=(rfl)
theorem zh6 [zah] (f:FuncId) (caps:Array Operand):dK P T s ⟨dst,.makeFunc (.func f) #[] caps,ty,pos,af,g⟩ (kk Ke) = Ke ⟨[],.ids []⟩ (s.put dst (.clo f (caps.toList.map s.ev))):=by
 show (#[] = (#[]:Array Operand)∧Ke ⟨[],.ids []⟩ (s.put dst (.clo f (caps.toList.map s.ev)))) = _
 simp
theorem zh7 [zah] (x:Operand):dK P T s ⟨dst,.nilCheck x,ty,pos,af,g⟩ (kk Ke) = zct [s.ev x] [] (kk fun l=>zcI s.rw (s.ev x) (kk (evK (s.ev x) (kk fun p=>Ke ⟨l,.ids []⟩ (s.put dst p))))):=(rfl)
theorem zyY [zah] (x:Operand) (t:TypeId):dK P T s ⟨dst,.call ⟨.builtin .len,#[x],#[t]⟩,ty,pos,af,g⟩ (kk Ke) = zct [s.ev x] [] (kk fun l=>zv0 T s.rw t (s.ev x) (kk fun p=>Ke ⟨l,.ids []⟩ (s.put dst p))):=(rfl)
theorem zyZ [zah] (x y:Operand) (ts:Array TypeId):dK P T s ⟨dst,.call ⟨.builtin .max,#[x,y],ts⟩,ty,pos,af,g⟩ (kk Ke) = zct [s.ev x,s.ev y] [] (kk fun l=>zcd true (s.ev x) (s.ev y) (kk fun p=>Ke ⟨l,.ids []⟩ (s.put dst p))):=(rfl)
theorem zy0 [zah] (x y:Operand) (ts:Array TypeId):dK P T s ⟨dst,.call ⟨.builtin .min,#[x,y],ts⟩,ty,pos,af,g⟩ (kk Ke) = zct [s.ev x,s.ev y] [] (kk fun l=>zcd false (s.ev x) (s.ev y) (kk fun p=>Ke ⟨l,.ids []⟩ (s.put dst p))):=(rfl)
theorem zm1 [zah] (t:TypeId) (x:Operand) (mx:Option Operand):dK P T s ⟨dst,.slice t x none none mx,ty,pos,af,g⟩ (kk Ke) = zct (s.ev x :: (mx.toList).map s.ev) [] (kk fun l=>zbg T s.rw s.ev t (s.ev x) none none mx (kk fun p=>Ke ⟨l,.ids []⟩ (s.put dst p))):=by
 cases mx <;> rfl
theorem zm2 [zah] (t:TypeId) (x lo:Operand):dK P T s ⟨dst,.slice t x (some lo) none none,ty,pos,af,g⟩ (kk Ke) = zct [s.ev x,s.ev lo] [] (kk fun l=>zbg T s.rw s.ev t (s.ev x) (some lo) none none (kk fun p=>Ke ⟨l,.ids []⟩ (s.put dst p))):=(rfl)
def zm3 (T:Tab) (s:St) (dst:Option Nat) (t:TypeId) (x hi:Operand) (r:Row) (k ver:Nat) (py:PV) (Ke:Ent→St→Prop):Prop :=
 match r.kind with
 | .sli _ _ false _=>zFz T s dst t r k ver py Ke
 | _=>zct [.own k ver,py] [] (kk fun l=>zbg T s.rw s.ev t (.own k ver) none (some hi) none (kk fun p=>Ke ⟨l,.ids []⟩ (s.put dst p)))
def zCG (T:Tab) (s:St) (dst:Option Nat) (t:TypeId) (x hi:Operand) (px py:PV) (Ke:Ent→St→Prop):Prop :=
 match px with
 | .own k ver=>zm3 T s dst t x hi (s.rw k) k ver py Ke
 | _=>zct [px,py] [] (kk fun l=>zbg T s.rw s.ev t px none (some hi) none (kk fun p=>Ke ⟨l,.ids []⟩ (s.put dst p)))
theorem zqJ (t:TypeId) (x hi:Operand) (k ver:Nat) (py:PV):zCG T s dst t x hi (.own k ver) py (kk Ke) = zm3 T s dst t x hi (s.rw k) k ver py (kk Ke):=(rfl)
theorem zut (t:TypeId) (x hi:Operand) (fr:Bool) (z:Nat) (c:List PV) (py:PV):zCG T s dst t x hi (.sl fr z c) py (kk Ke) = zct [.sl fr z c,py] [] (kk fun l=>zbg T s.rw s.ev t (.sl fr z c) none (some hi) none (kk fun p=>Ke ⟨l,.ids []⟩ (s.put dst p))):=(rfl)
theorem zy1 (t:TypeId) (x hi:Operand) (v:Value) (py:PV):zCG T s dst t x hi (.v v) py (kk Ke) = zct [.v v,py] [] (kk fun l=>zbg T s.rw s.ev t (.v v) none (some hi) none (kk fun p=>Ke ⟨l,.ids []⟩ (s.put dst p))):=(rfl)
theorem zm4 (t:TypeId) (x hi:Operand) (v e z:Nat) (c:List PV) (k ver:Nat) (py:PV):zm3 T s dst t x hi ⟨v,.sli e z true c⟩ k ver py (kk Ke) = zct [.own k ver,py] [] (kk fun l=>zbg T s.rw s.ev t (.own k ver) none (some hi) none (kk fun p=>Ke ⟨l,.ids []⟩ (s.put dst p))):=(rfl)
def zDO (T:Tab) (t e:TypeId):Prop:=0 < (T t).size∧(T t).k = .sli e∧0 < (T e).size∧(T e).size = 1
theorem zh8 (t:TypeId) (x hi:Operand) (v e:Nat) (c:List PV) (k ver d:Nat) (kd:IntKind) (m:Int):zm3 T s (some d) t x hi ⟨v,.sli e 1 false c⟩ k ver (.v (.int kd m)) (kk Ke) =
 (v = ver∧zDO T t e∧0 ≤ m∧m ≤ (c.length:Int)∧Ke ⟨[],.ids [k]⟩ ((s.row k ⟨ver + 1,.sli e 1 false (c.take m.toNat)⟩).put (some d) (.own k (ver + 1)))):=by
 refine propext ⟨fun h=>?_,fun ⟨h1,⟨h2,h3,h4,h5⟩,h6,h7,h8⟩=>⟨d,e,c,kd,m,rfl,by rw [h1],h2,h3,h4,h5,rfl,h6,h7,h8⟩⟩
 obtain ⟨d',e',c',kd',m',g1,g2,g3,g4,g5,g6,g7,g8,g9,g10⟩:=h
 cases g1;cases g2;cases g7
 exact ⟨rfl,⟨g3,g4,g5,g6⟩,g8,g9,g10⟩
theorem zm5 [zah] (t:TypeId) (x hi:Operand):dK P T s ⟨dst,.slice t x none (some hi) none,ty,pos,af,g⟩ (kk Ke) = zCG T s dst t x hi (s.ev x) (s.ev hi) (kk Ke):=by
 have hr:(zdI T s.rw s.ev (.slice t x none (some hi) none) fun p=>Ke ⟨zld s ⟨dst,.slice t x none (some hi) none,ty,pos,af,g⟩,.ids []⟩ (s.put dst p)) = zct [s.ev x,s.ev hi] [] (kk fun l=>zbg T s.rw s.ev t (s.ev x) none (some hi) none (kk fun p=>Ke ⟨l,.ids []⟩ (s.put dst p))):=(rfl)
 show zDD T s ⟨dst,.slice t x none (some hi) none,ty,pos,af,g⟩ t (s.ev x) (s.ev hi) (kk Ke) = _
 cases hx:s.ev x with
 | own k ver =>
   rw [hx] at hr
   unfold zDD zCG zm3
   dsimp only
   generalize s.rw k = r
   cases r with
   | mk v kd =>
     cases kd with
     | sli e z fz c=>cases fz with
       | false=>rfl
       | true=>exact hr
     | _=>exact hr
 | _=>rw [hx] at hr;exact hr
theorem zm6 [zah] (t:TypeId) (x lo hi:Operand):dK P T s ⟨dst,.slice t x (some lo) (some hi) none,ty,pos,af,g⟩ (kk Ke) = zct [s.ev x,s.ev lo,s.ev hi] [] (kk fun l=>zbg T s.rw s.ev t (s.ev x) (some lo) (some hi) none (kk fun p=>Ke ⟨l,.ids []⟩ (s.put dst p))):=(rfl)
theorem zqK [zah] (t:TypeId) (parts:List (Nat × Operand)):dK P T s ⟨dst,.build t ⟨parts⟩,ty,pos,af,g⟩ (kk Ke) = zct (evs s parts) [] (kk fun l=>zCE T s.rw (T t).k (T t).size (T t).zero (zBK s parts) (kk fun p=>Ke ⟨l,.ids []⟩ (s.put dst p))):=by
 have e:((Op.build t ⟨parts⟩).operands.toList.map s.ev).flatMap zdp = (evs s parts).flatMap zdp:=by
  simp [Op.operands,evs]
  rfl
 show zdI T s.rw s.ev (.build t ⟨parts⟩) (fun p=>Ke ⟨((Op.build t ⟨parts⟩).operands.toList.map s.ev).flatMap zdp,.ids []⟩ (s.put dst p)) = _
 rw [e]
 exact (zyQ (T:=T) (s:=s) t parts (fun p=>Ke ⟨(evs s parts).flatMap zdp,.ids []⟩ (s.put dst p)))
def zBM [zah] (P:Program) (f:FuncId) (raw:List PV) (d:Nat) (s:St) (Ke:Ent→St→Prop):Prop:=zCU P s f raw d (fun rd k s1=>Ke ⟨rd,.ids [d,k]⟩ s1)
theorem zxk [zah] {f:FuncId} {raw lent:List PV} {k d:Nat} {x:RV} {r:Row} {Ka:RV→Prop} {us:Dm s} {u:Dm Ke} (rd:List Nat) (h:∀ s':St,s'.rw k = s.rw k→(∀ a ∈ rd,s'.rw a = s.rw a)→∀ K':St→Prop,K' (zam (s'.row k r) d x)→askG P s' f raw (some d) K') (hd:d % 1000 ≠ k % 1000)
 (hk:Ke ⟨rd,.ids [d,k]⟩ (zam (s.row k r) d x)):zhS P f lent Ka (zBM P f raw d (kk s us) (kk Ke u)):=.inr (.inr (.inr ⟨rd,k,x,r,h,hd,hk⟩))
theorem zuu [zah] (d:Nat) (f:Operand) (args:List Operand) (ts:Array TypeId):dK P T s ⟨some d,.call ⟨.value f,⟨args⟩,ts⟩,ty,pos,af,g⟩ (kk Ke) =
 zdH s.rw 3 (zud s args) [] (kk fun l=>zdH s.rw 4 [s.ev f] l (kk fun l'=>zw5 (s.ev f) (kk fun g caps=>zhS P g (zfT s args ++ caps.map (zb5 s.rw 3)) (kk fun rv=>Ke ⟨l',.res d⟩ (zam s d rv)) (zBM P g (zud s args ++ caps) d (kk s) (kk Ke))))):=by
 simp only [zdH,zxg,List.nil_append,List.flatMap_cons,List.flatMap_nil,List.append_nil]
 show (zdt P s.rw s.ev f ⟨args⟩ (fun rv=>Ke ⟨(zud s args).flatMap (zdd s.rw 3) ++ zdd s.rw 4 (s.ev f),.res d⟩ (zam s d rv)) ∨ tdK P s f ⟨.value f,⟨args⟩,ts⟩ d Ke) = _
 unfold zdt tdK zw5 zhS zBM kk
 cases s.ev f <;> first | rfl | (simp;done) | skip
theorem zgt [zah] (f:Operand) (args:List Operand) (ts:Array TypeId):dK P T s ⟨none,.call ⟨.value f,⟨args⟩,ts⟩,ty,pos,af,g⟩ (kk Ke) =
 zdH s.rw 3 (zud s args) [] (kk fun l=>zdH s.rw 4 [s.ev f] l (kk fun l'=>zw5 (s.ev f) (kk fun g caps=>zhS P g (zfT s args ++ caps.map (zb5 s.rw 3)) (kk fun rv=>Ke ⟨l',.ids []⟩ s) False))):=by
 have e:=zxj (P:=P) (s:=s) f args (fun rv=>Ke ⟨(zud s args).flatMap (zdd s.rw 3) ++ zdd s.rw 4 (s.ev f),.ids []⟩ s)
 simp only [zdH,zxg,List.nil_append,List.flatMap_cons,List.flatMap_nil,List.append_nil]
 exact e
theorem zm7 [zah] (d:Nat) (x y:Operand) (t t2:TypeId):dK P T s ⟨some d,.call ⟨.builtin .append,#[x,y],#[t,t2]⟩,ty,pos,af,g⟩ (kk Ke) =
 zct [s.ev y] [] (kk fun l=>zct [s.ev x] [d] (kk fun l'=>opK P T s ⟨some d,.call ⟨.builtin .append,#[x,y],#[t,t2]⟩,ty,pos,af,g⟩ (Ke ⟨l,.ids l'⟩))):=by
 have e:∀ p:PV,[p].flatMap zdp = zdp p:=fun p=>by simp
 unfold zct
 simp only [kk,e,List.nil_append]
 rfl
theorem zqL [zah] (d:Nat) (t:TypeId):dK P T s ⟨some d,.alloc t,ty,pos,af,g⟩ (kk Ke) = opK P T s ⟨some d,.alloc t,ty,pos,af,g⟩ (Ke ⟨[],.ids [d]⟩):=(rfl)
theorem zy2 [zah] (d:Nat) (t:TypeId) (x:Operand):dK P T s ⟨some d,.box t x,ty,pos,af,g⟩ (kk Ke) = zct [s.ev x] [] (kk fun l=>opK P T s ⟨some d,.box t x,ty,pos,af,g⟩ (Ke ⟨l,.ids [d]⟩)):=by
 have e:∀ p:PV,[p].flatMap zdp = zdp p:=fun p=>by simp
 unfold zct
 simp only [kk,e,List.nil_append]
 rfl
theorem zff [zah] (d:Nat) (t:TypeId) (n:Nat) (parts:List (Nat × Operand)):dK P T s ⟨some d,.buildSlice t n ⟨parts⟩,ty,pos,af,g⟩ (kk Ke) = zct (evs s parts) [d] (kk fun l=>opK P T s ⟨some d,.buildSlice t n ⟨parts⟩,ty,pos,af,g⟩ (Ke ⟨[],.ids l⟩)):=(rfl)
theorem zqM [zah] (t:TypeId) (ad x:Operand):dK P T s ⟨dst,.store t ad x,ty,pos,af,g⟩ (kk Ke) = zct [s.ev ad,s.ev x] [] (kk fun l=>opK P T s ⟨dst,.store t ad x,ty,pos,af,g⟩ (Ke ⟨[],.ids l⟩)):=by
 have e:[s.ev ad,s.ev x].flatMap zdp = zdp (s.ev ad) ++ zdp (s.ev x):=by simp
 unfold zct
 simp only [kk,e,List.nil_append]
 rfl
theorem zuv [zah] (d:Nat) (t:TypeId) (l c:Operand):dK P T s ⟨some d,.makeSlice t l c,ty,pos,af,g⟩ (kk Ke) = opK P T s ⟨some d,.makeSlice t l c,ty,pos,af,g⟩ (Ke ⟨[],.ids [d]⟩):=(rfl)
end
def TK.isInt:TK→Bool | .int _=>true | _=>false
section
variable {Kp:PV→Prop} {rw:Nat→Row}
section
variable (t:TypeId) (k:IntKind) (a b:Int)
theorem zuw:zcn T .add t (.v (.int k a)) (.v (.int k b)) Kp = Kp (.v (.int k (k.wrap (a + b)))):=by simp [zcn,zbh,zbO]
theorem zux:zcn T .sub t (.v (.int k a)) (.v (.int k b)) Kp = Kp (.v (.int k (k.wrap (a - b)))):=by simp [zcn,zbh,zbO]
theorem zuy:zcn T .mul t (.v (.int k a)) (.v (.int k b)) Kp = Kp (.v (.int k (k.wrap (a * b)))):=by simp [zcn,zbh,zbO]
theorem zuz:zcn T .quo t (.v (.int k a)) (.v (.int k b)) Kp = (b ≠ 0∧Kp (.v (.int k (k.wrap (a.tdiv b))))):=by simp [zcn,zbh,zbO]
theorem zuA:zcn T .rem t (.v (.int k a)) (.v (.int k b)) Kp = (b ≠ 0∧Kp (.v (.int k (a.tmod b)))):=by simp [zcn,zbh,zbO]
theorem zuB:zcn T .and t (.v (.int k a)) (.v (.int k b)) Kp = Kp (.v (.int k (zet k a b))):=by simp [zcn,zbh,zbO]
theorem zy3:zcn T .or t (.v (.int k a)) (.v (.int k b)) Kp = Kp (.v (.int k (ior k a b))):=by simp [zcn,zbh,zbO]
theorem zuC:zcn T .xor t (.v (.int k a)) (.v (.int k b)) Kp = Kp (.v (.int k (zzZ k a b))):=by simp [zcn,zbh,zbO]
theorem zjX:zcn T .andNot t (.v (.int k a)) (.v (.int k b)) Kp = Kp (.v (.int k (zd2 k a b))):=by simp [zcn,zbh,zbO]
theorem zuD (k':IntKind):zcn T .shl t (.v (.int k a)) (.v (.int k' b)) Kp = (0 ≤ b∧Kp (.v (.int k (zoE k a b)))):=by simp [zcn,zbh,zbO]
theorem zuE (k':IntKind):zcn T .shr t (.v (.int k a)) (.v (.int k' b)) Kp = (0 ≤ b∧Kp (.v (.int k (zkG k a b)))):=by simp [zcn,zbh,zbO]
theorem zuF:zcn T .eql t (.v (.int k a)) (.v (.int k b)) Kp = Kp (.v (.bool (a == b))):=by simp [zcn,zbh,zbO]
theorem zuG:zcn T .neq t (.v (.int k a)) (.v (.int k b)) Kp = Kp (.v (.bool (a != b))):=by simp [zcn,zbh,zbO]
theorem zuH:zcn T .lss t (.v (.int k a)) (.v (.int k b)) Kp = Kp (.v (.bool (decide (a < b)))):=by simp [zcn,zbh,zbO]
theorem zuI:zcn T .leq t (.v (.int k a)) (.v (.int k b)) Kp = Kp (.v (.bool (decide (a ≤ b)))):=by simp [zcn,zbh,zbO]
theorem zuJ:zcn T .gtr t (.v (.int k a)) (.v (.int k b)) Kp = Kp (.v (.bool (decide (b < a)))):=by simp [zcn,zbh,zbO]
theorem zuK:zcn T .geq t (.v (.int k a)) (.v (.int k b)) Kp = Kp (.v (.bool (decide (b ≤ a)))):=by simp [zcn,zbh,zbO]
end
theorem zh9 (t:TypeId) (a b:ByteArray):zcn T .eql t (.v (.string a)) (.v (.string b)) Kp = Kp (.v (.bool (a.toList == b.toList))):=by simp [zcn,zkH]
theorem zia (t:TypeId) (a b:ByteArray):zcn T .neq t (.v (.string a)) (.v (.string b)) Kp = Kp (.v (.bool (!(a.toList == b.toList)))):=by simp [zcn,zkH]
theorem zib (t:TypeId) (a b:ByteArray):zcn T .add t (.v (.string a)) (.v (.string b)) Kp = (a.size + b.size ≤ 9223372036854775807∧Kp (.v (.string (a ++ b)))):=by simp [zcn,zkH]
theorem zgu (t:TypeId) (a b:Bool):zcn T .eql t (.v (.bool a)) (.v (.bool b)) Kp = ((T t).k = .bool∧0 < (T t).size∧Kp (.v (.bool (a == b)))):=by simp [zcn]
theorem zgv (t:TypeId) (a b:Bool):zcn T .neq t (.v (.bool a)) (.v (.bool b)) Kp = ((T t).k = .bool∧0 < (T t).size∧Kp (.v (.bool (!(a == b))))):=by simp [zcn]
theorem zy4 (b:Bool):unK .not (.v (.bool b)) Kp = Kp (.v (.bool !b)):=(rfl)
theorem zy5 (k:IntKind) (n:Int):unK .neg (.v (.int k n)) Kp = Kp (.v (.int k (k.wrap (0 - n)))):=(rfl)
theorem zqN (fr:Bool) (c:List PV) (off:Nat) (Km:Md→List PV→Nat→Prop):zoD rw (.eref fr c off) Km = Km (.set fr) c off:=(rfl)
def zic (r:Row) (ver off:Nat) (Km:Md→List PV→Nat→Prop):Prop:=r.ver = ver∧match r.kind with | .box _ c=>Km .asis c off | .sli _ _ _ c=>Km (.set true) c off | .tab _ c=>Km .asis c off | _=>False
theorem zuL (j ver off:Nat) (Km:Md→List PV→Nat→Prop):zoD rw (.ref j ver off) Km = zic (rw j) ver off Km:=(rfl)
theorem zjY (ver off:Nat) (bt:TypeId) (c:List PV) (Km:Md→List PV→Nat→Prop):zic ⟨ver,.box bt c⟩ ver off Km = Km .asis c off:=by simp [zic]
theorem zjZ (ver off e:Nat) (c:List PV) (Km:Md→List PV→Nat→Prop):zic ⟨ver,.tab e c⟩ ver off Km = Km .asis c off:=by simp [zic]
theorem zj0 (ver off e sz:Nat) (fz:Bool) (c:List PV) (Km:Md→List PV→Nat→Prop):zic ⟨ver,.sli e sz fz c⟩ ver off Km = Km (.set true) c off:=by simp [zic]
def zgw (r:Row) (ver:Nat) (K:PV→Prop):Prop:=r.ver = ver∧match r.kind with | .nil=>K (.v (.int .i64 0)) | .sli _ sz _ c=>0 < sz∧K (.v (.int .i64 ((c.length / sz:Nat):Int))) | .tab _ c=>K (.v (.int .i64 (c.length:Int))) | _=>False
def zzI (rw:Nat→Row) (k:TK) (z:Nat) (x:PV) (K:PV→Prop):Prop :=
 0 < z∧match k with
 | .str=>(match x with | .v (.string s)=>K (.v (.int .i64 s.size)) | _=>False)
 | .sli _=>ztm rw x fun sz n=>0 < sz∧K (.v (.int .i64 ((n / sz:Nat):Int)))
 | .arr n _=>K (.v (.int .i64 n))
 | _=>False
theorem zy6 (t:TypeId) (x:PV):zv0 T rw t x Kp = zzI rw (T t).k (T t).size x Kp:=(rfl)
theorem zuM (b:ByteArray):zzI rw .str 1 (.v (.string b)) Kp = Kp (.v (.int .i64 b.size)):=by simp [zzI]
theorem zy7 (e:TypeId) (fr:Bool) (c:List PV):zzI rw (.sli e) 1 (.sl fr 1 c) Kp = Kp (.v (.int .i64 (c.length:Int))):=by simp [zzI,ztm]
theorem zuN (e:TypeId) (j ver:Nat):zzI rw (.sli e) 1 (.own j ver) Kp = zgw (rw j) ver Kp:=by
 simp only [zzI,ztm,zgw,true_and,Nat.one_pos]
 cases (rw j).kind <;> simp
theorem zj1 (ver e:Nat) (fz:Bool) (c:List PV):zgw ⟨ver,.sli e 1 fz c⟩ ver Kp = Kp (.v (.int .i64 (c.length:Int))):=by simp [zgw]
theorem zj2 (ver e:Nat) (c:List PV):zgw ⟨ver,.tab e c⟩ ver Kp = Kp (.v (.int .i64 (c.length:Int))):=by simp [zgw]
theorem zj3 (ver:Nat):zgw ⟨ver,.nil⟩ ver Kp = Kp (.v (.int .i64 0)):=by simp [zgw]
def iaD (T:Tab) (rw:Nat→Row) (kd:TK) (z:Nat) (x i:PV) (K:PV→Prop):Prop :=
 match i with
 | .v (.int _ n) =>
   0 < z∧match kd with
   | .sli e =>
     (match x with
     | .sl fr sz c=>0 < (T e).size∧sz = (T e).size∧0 ≤ n∧n.toNat * sz < c.length∧K (.eref fr c (n.toNat * sz))
     | .own k ver=>(rw k).ver = ver∧match (rw k).kind with | .sli _ sz _ c=>0 < (T e).size∧sz = (T e).size∧0 ≤ n∧n.toNat * sz < c.length∧K (.ref k ver (n.toNat * sz)) | .tab _ c=>(T e).size = 1∧0 ≤ n∧n.toNat < c.length∧K (.ref k ver n.toNat) | _=>False
     | _=>False)
   | .arr len e=>ziN x = true∧0 < (T e).size∧0 ≤ n∧n < len∧zcI rw x (K (zdg x (n.toNat * (T e).size)))
   | _=>False
 | _=>False
theorem zCH (t:TypeId) (x i:PV):za3 T rw t x i Kp = iaD T rw (T t).k (T t).size x i Kp:=(rfl)
theorem zCI {e:TypeId} {k:IntKind} (fr:Bool) (c:List PV) (n:Int) (h2:(T e).size = 1) :
 iaD T rw (.sli e) 1 (.sl fr 1 c) (.v (.int k n)) Kp = (0 ≤ n∧n < (c.length:Int)∧Kp (.eref fr c n.toNat)):=by
 simp only [iaD,h2,Nat.mul_one,true_and,Nat.one_pos]
 refine propext ⟨fun ⟨a,b,c⟩=>⟨a,by omega,c⟩,fun ⟨a,b,c⟩=>⟨a,by omega,c⟩⟩
def zsm (r:Row) (j ver:Nat) (n:Int) (K:PV→Prop):Prop:=r.ver = ver∧match r.kind with | .sli _ sz _ c=>sz = 1∧0 ≤ n∧n < (c.length:Int)∧K (.ref j ver n.toNat) | .tab _ c=>0 ≤ n∧n < (c.length:Int)∧K (.ref j ver n.toNat) | _=>False
theorem zy8 {e:TypeId} {k:IntKind} (j ver:Nat) (n:Int) (h2:(T e).size = 1) :
 iaD T rw (.sli e) 1 (.own j ver) (.v (.int k n)) Kp = zsm (rw j) j ver n Kp:=by
 simp only [iaD,h2,zsm,true_and,Nat.one_pos]
 cases (rw j).kind <;> simp
 ·rintro _ rfl h
  rw [Nat.mul_one]
  exact ⟨fun ⟨a,b⟩=>⟨by omega,b⟩,fun ⟨a,b⟩=>⟨by omega,b⟩⟩
 ·intros;omega
theorem zuO {e:TypeId} {k:IntKind} (len z j ver off:Nat) (n:Int) (h2:(T e).size = 1):iaD T rw (.arr len e) (z + 1) (.ref j ver off) (.v (.int k n)) Kp = (0 ≤ n∧n < (len:Int)∧zcI rw (.ref j ver off) (kk (Kp (.ref j ver (off + n.toNat))))):=by
 simp only [iaD,h2,Nat.mul_one,Nat.zero_lt_succ,Nat.one_pos,true_and,ziN,zdg,kk]
theorem zy9 [zah] {e:TypeId} {k:IntKind} (len z j ver off:Nat) (n:Int) (h2:(T e).size = 1):iaD T rw (.arr len e) (z + 1) (.ref j ver (off + 1)) (.v (.int k n)) Kp = (0 ≤ n∧n < (len:Int)∧zcI rw (.ref j ver (off + 1)) (kk (Kp (.ref j ver (off + 1 + n.toNat))))):=zuO _ _ _ _ _ _ h2
theorem zuP [zah] {e:TypeId} {k:IntKind} (len z j ver:Nat) (n:Int) (h2:(T e).size = 1):iaD T rw (.arr len e) (z + 1) (.ref j ver 0) (.v (.int k n)) Kp = (0 ≤ n∧n < (len:Int)∧zcI rw (.ref j ver 0) (kk (Kp (.ref j ver n.toNat)))):=by
 rw [zuO _ _ _ _ _ _ h2,Nat.zero_add]
theorem zm8 (j ver e:Nat) (c:List PV) (n:Int):zsm ⟨ver,.tab e c⟩ j ver n Kp = (0 ≤ n∧n < (c.length:Int)∧Kp (.ref j ver n.toNat)):=by simp [zsm]
theorem zm9 (j ver e:Nat) (fz:Bool) (c:List PV) (n:Int):zsm ⟨ver,.sli e 1 fz c⟩ j ver n Kp = (0 ≤ n∧n < (c.length:Int)∧Kp (.ref j ver n.toNat)):=by simp [zsm]
theorem zfV {α:Type} (f:α→PV) (d:α) (xs:List α) {t:TypeId} {m:Md} (o:Nat) (g:α→PV) (hg:∀ x,m.fix (f x) = g x) (h0:(T t).k.agg = false) (h1:0 < (T t).size) :
 ldK T t m (xs.map f) o Kp = (o < xs.length∧Kp (g (xs.getD o d))):=by
 simp only [ldK,h0,h1,true_and,List.length_map]
 refine propext ⟨fun ⟨a,b⟩=>⟨a,?_⟩,fun ⟨a,b⟩=>⟨a,?_⟩⟩
 ·have e:(xs.map f).getD o .junk = f xs[o]:=by simp [List.getD,a]
  have e2:xs.getD o d = xs[o]:=by simp [List.getD,a]
  rw [e,hg] at b
  rw [e2]
  exact b
 ·have e:(xs.map f).getD o .junk = f xs[o]:=by simp [List.getD,a]
  have e2:xs.getD o d = xs[o]:=by simp [List.getD,a]
  rw [e,hg]
  rw [e2] at b
  exact b
theorem zsn (m:Md) (v:Value):m.fix (.v v) = .v v:=by cases m <;> rfl
theorem zza (fr f:Bool) (sz:Nat) (c:List PV):(Md.set fr).fix (.sl f sz c) = .sl fr sz c:=(rfl)
theorem zqO (p:PV):Md.asis.fix p = p:=(rfl)
theorem zCJ [zah] (xs:List Int) {t:TypeId} {m:Md} (o:Nat) (h0:(T t).k.agg = false) (h1:0 < (T t).size):ldK T t m (iL xs) o Kp = (o < xs.length∧Kp (.v (.int .i64 (xs.getD o 0)))) :=
 zfV _ 0 xs o _ (fun x=>zsn m _) h0 h1
theorem zCK [zah] (k:IntKind) (xs:List Int) {t:TypeId} {m:Md} (o:Nat) (h0:(T t).k.agg = false) (h1:0 < (T t).size):ldK T t m (kL k xs) o Kp = (o < xs.length∧Kp (.v (.int k (xs.getD o 0)))) :=
 zfV _ 0 xs o _ (fun x=>zsn m _) h0 h1
theorem zCL [zah] (xs:List Bool) {t:TypeId} {m:Md} (o:Nat) (h0:(T t).k.agg = false) (h1:0 < (T t).size):ldK T t m (bL xs) o Kp = (o < xs.length∧Kp (.v (.bool (xs.getD o false)))) :=
 zfV _ false xs o _ (fun x=>zsn m _) h0 h1
theorem zCM [zah] (xs:List ByteArray) {t:TypeId} {m:Md} (o:Nat) (h0:(T t).k.agg = false) (h1:0 < (T t).size):ldK T t m (sL xs) o Kp = (o < xs.length∧Kp (.v (.string (xs.getD o ⟨#[]⟩)))) :=
 zfV (fun n=>PV.v (.string n)) ⟨#[]⟩ xs o (fun n=>PV.v (.string n)) (fun x=>zsn m _) h0 h1
theorem zzb [zah] (xs:List (List Int)) {t:TypeId} {fr:Bool} (o:Nat) (h0:(T t).k.agg = false) (h1:0 < (T t).size):ldK T t (.set fr) (iLL xs) o Kp = (o < xs.length∧Kp (.sl fr 1 (iL (xs.getD o [])))) :=
 zfV _ [] xs o (fun r=>.sl fr 1 (iL r)) (fun x=>rfl) h0 h1
theorem zCN {t:TypeId} {m:Md} (p:PV) (c:List PV) (h0:(T t).k.agg = false) (h1:0 < (T t).size):ldK T t m (p :: c) 0 Kp = evK (m.fix p) Kp:=by simp [ldK,h0,h1,evK]
theorem zCO {t:TypeId} {m:Md} (p q:PV) (c:List PV) (h0:(T t).k.agg = false) (h1:0 < (T t).size):ldK T t m (p :: q :: c) 1 Kp = evK (m.fix q) Kp:=by simp [ldK,h0,h1,evK]
theorem zCP {t:TypeId} {m:Md} (p q r:PV) (c:List PV) (h0:(T t).k.agg = false) (h1:0 < (T t).size):ldK T t m (p :: q :: r :: c) 2 Kp = evK (m.fix r) Kp:=by simp [ldK,h0,h1,evK]
theorem zCQ {t:TypeId} {m:Md} (p q r s:PV) (c:List PV) (h0:(T t).k.agg = false) (h1:0 < (T t).size):ldK T t m (p :: q :: r :: s :: c) 3 Kp = evK (m.fix s) Kp:=by simp [ldK,h0,h1,evK]
theorem zuQ {t:TypeId} {m:Md} (p:PV) (c0:List PV) (o:Nat) (h0:(T t).k.agg = true) (h1:0 < (T t).size):ldK T t m (p :: c0) o Kp = (o + (T t).size ≤ (p :: c0).length∧evK (.ag ((((p :: c0).drop o).take (T t).size).map m.fix)) Kp):=by simp [ldK,h0,h1,evK]
def zqP (T:Tab) (kd:TK) (z:Nat) (f:Nat) (K:Nat→TypeId→Prop):Prop :=
 0 < z∧match kd with | .struct fs=>(match fs[f]? with | some (o,ft)=>0 < (T ft).size∧K o ft | none=>False) | _=>False
def zCR (T:Tab) (x:Option (Nat × TypeId)) (K:Nat→TypeId→Prop):Prop:=match x with | some (o,ft)=>0 < (T ft).size∧K o ft | none=>False
theorem zqQ (t:TypeId) (f:Nat) (Kf:Nat→TypeId→Prop):zcW T t f Kf = zqP T (T t).k (T t).size f Kf:=(rfl)
theorem zdO (fs:List (Nat × TypeId)) (z f:Nat) (Kf:Nat→TypeId→Prop):zqP T (.struct fs) (z + 1) f Kf = zCR T fs[f]? Kf:=by simp only [zqP,zCR,Nat.zero_lt_succ,true_and]
theorem zna (o:Nat) (ft:TypeId) (Kf:Nat→TypeId→Prop) (h:0 < (T ft).size):zCR T (some (o,ft)) Kf = Kf o ft:=by simp [zCR,h]
theorem zfg [zah] (fs:List (Nat × TypeId)) (f:Nat) (Kf:Nat→TypeId→Prop):zqP T (.struct fs) 2 f Kf = zCR T fs[f]? Kf:=zdO fs 1 f Kf
theorem znb (fr:Bool) (c:List PV) (o:Nat) (A:Prop):zcI rw (.eref fr c o) (kk A) = A:=(rfl)
theorem zqR (f:FuncId) (c:List PV) (A:Prop):zcI rw (.clo f c) (kk A) = A:=(rfl)
def zfW (r:Row) (ver:Nat) (A:Prop):Prop:=r.ver = ver∧r.kind.nd = true∧A
theorem zqS (j ver o:Nat) (A:Prop):zcI rw (.ref j ver o) A = zfW (rw j) ver A:=(rfl)
theorem zid (ver:Nat) (bt:TypeId) (c:List PV) (A:Prop):zfW ⟨ver,.box bt c⟩ ver (kk A) = A:=by simp [zfW,RK.nd,kk]
theorem znc (j v o:Nat):ziN (.ref j v o) = true:=(rfl)
theorem zj4 (fr:Bool) (c:List PV) (o:Nat):ziN (.eref fr c o) = true:=(rfl)
theorem znd (j v o d:Nat):zdg (.ref j v o) d = .ref j v (o + d):=(rfl)
theorem zj5 (fr:Bool) (c:List PV) (o d:Nat):zdg (.eref fr c o) d = .eref fr c (o + d):=(rfl)
def zzJ (kd kd2:TK) (x:PV) (K:PV→Prop):Prop:=match kd,kd2,x with
 | .int _,.int k,.v (.int _ n)=>K (.v (.int k (k.wrap n)))
 | .str,.str,.v (.string s)=>K (.v (.string s))
 | _,_,_=>False
theorem zqT {a b:TypeId} {k:IntKind} (n:Int) (h1:(T a).k.isInt = true) (h2:(T b).k.isInt = true) (h3:0 < (T a).size) (h4:0 < (T b).size):zfu T rw a b (.v (.int k n)) Kp = zzJ (T a).k (T b).k (.v (.int k n)) Kp:=by
 revert h1 h2
 simp only [zfu,zzJ,h3,h4,true_and]
 cases (T a).k <;> simp [TK.isInt]
 cases (T b).k <;> simp [TK.isInt]
theorem zne (k1 k2 k:IntKind) (n:Int):zzJ (.int k1) (.int k2) (.v (.int k n)) Kp = Kp (.v (.int k2 (k2.wrap n))):=(rfl)
theorem zqU {a b:TypeId} (n:ByteArray) (h1:(T a).k = .str) (h2:(T b).k = .str) (h3:0 < (T a).size) (h4:0 < (T b).size):zfu T rw a b (.v (.string n)) Kp = Kp (.v (.string n)):=by
 simp [zfu,h1,h2,h3,h4]
theorem znf {t:TypeId} {k:IntKind} (b:ByteArray) (n:Int) (h0:(T t).k = .str) (h1:0 < (T t).size):zqp T t (.v (.string b)) (.v (.int k n)) Kp = (0 ≤ n∧n.toNat < b.size∧Kp (.v (.int .u8 ((b.data.toList.getD n.toNat 0).toNat:Int)))):=by
 simp [zqp,h0,h1]
theorem zj6 (k k':IntKind) (a b:Int):zcd true (.v (.int k a)) (.v (.int k' b)) Kp = Kp (.v (.int k (if b > a then b else a))):=(rfl)
theorem zj7 (k k':IntKind) (a b:Int):zcd false (.v (.int k a)) (.v (.int k' b)) Kp = Kp (.v (.int k (if b < a then b else a))):=(rfl)
def zoM (p:PV) (K:Int→Prop):Prop:=match p with | .v (.int _ n)=>K n | _=>False
theorem zqV (k:IntKind) (n:Int) (Ki:Int→Prop):zoM (.v (.int k n)) Ki = Ki n:=(rfl)
def zk7 (T:Tab) (rw:Nat→Row) (ev:Operand→PV) (kd:TK) (z:Nat) (x:PV) (lo hi mx:Option Operand) (K:PV→Prop):Prop :=
 0 < z∧match kd with
 | .str=>mx = none∧(match x with
  | .v (.string s)=>zjg ev lo 0 fun l=>zjg ev hi s.size fun h=>0 ≤ l∧l ≤ h∧h ≤ s.size∧K (.v (.string (s.extract l.toNat h.toNat)))
  | _=>False)
 | .sli e=>zeP rw x fun fr sz c=>0 < (T e).size∧sz = (T e).size ∧
  zjg ev lo 0 fun l=>zjg ev hi ((c.length / sz:Nat):Int) fun h=>zjg ev mx ((c.length / sz:Nat):Int) fun m=>0 ≤ l∧l ≤ h∧h ≤ m∧m ≤ ((c.length / sz:Nat):Int)∧(hi = none→mx = none) ∧
   K (.sl fr sz ((c.take (h.toNat * sz)).drop (l.toNat * sz)))
 | _=>False
theorem zzc (t:TypeId) (ev:Operand→PV) (x:PV) (lo hi mx:Option Operand):zbg T rw ev t x lo hi mx Kp = zk7 T rw ev (T t).k (T t).size x lo hi mx Kp:=(rfl)
theorem zqW {e:TypeId} (fr:Bool) (c:List PV) (x:Operand) (h2:(T e).size = 1):zk7 T rw s.ev (.sli e) 1 (.sl fr 1 c) (some x) none none Kp = zoM (s.ev x) (kk fun l=>0 ≤ l∧l ≤ (c.length:Int)∧Kp (.sl fr 1 (c.drop l.toNat))):=by
 simp only [zk7,zeP,zjg,h2,zoM,kk]
 cases s.ev x <;> simp
 rename_i v
 cases v <;> simp
theorem zqX {e:TypeId} (fr:Bool) (c:List PV) (x:Operand) (h2:(T e).size = 1):zk7 T rw s.ev (.sli e) 1 (.sl fr 1 c) none (some x) none Kp = zoM (s.ev x) (kk fun l=>0 ≤ l∧l ≤ (c.length:Int)∧Kp (.sl fr 1 (c.take l.toNat))):=by
 simp only [zk7,zeP,zjg,h2,zoM,kk]
 cases s.ev x <;> simp
 rename_i v
 cases v <;> simp
theorem zqY {e:TypeId} (fr:Bool) (c:List PV) (x y:Operand) (h2:(T e).size = 1):zk7 T rw s.ev (.sli e) 1 (.sl fr 1 c) (some x) (some y) none Kp = zoM (s.ev x) (kk fun l=>zoM (s.ev y) (kk fun h=>0 ≤ l∧l ≤ h∧h ≤ (c.length:Int)∧Kp (.sl fr 1 ((c.take h.toNat).drop l.toNat)))):=by
 simp only [zk7,zeP,zjg,h2,zoM,kk]
 cases s.ev x <;> simp
 rename_i v
 cases v <;> simp
 rename_i q n
 cases s.ev y <;> try simp
 rename_i v
 cases v <;> try simp
theorem zuR {e:TypeId} (fr:Bool) (c:List PV) (h2:(T e).size = 1):zk7 T rw s.ev (.sli e) 1 (.sl fr 1 c) none none none Kp = Kp (.sl fr 1 c):=by
 simp only [zk7,zeP,zjg,h2]
 simp
theorem zqZ (b:ByteArray) (x:Operand):zk7 T rw s.ev .str 1 (.v (.string b)) (some x) none none Kp = zoM (s.ev x) (kk fun l=>0 ≤ l∧l ≤ (b.size:Int)∧Kp (.v (.string (b.extract l.toNat b.size)))):=by
 simp only [zk7,zjg,zoM,kk]
 cases s.ev x <;> simp
 rename_i v
 cases v <;> simp
theorem zq0 (b:ByteArray) (x:Operand):zk7 T rw s.ev .str 1 (.v (.string b)) none (some x) none Kp = zoM (s.ev x) (kk fun h=>0 ≤ h∧h ≤ (b.size:Int)∧Kp (.v (.string (b.extract 0 h.toNat)))):=by
 simp only [zk7,zjg,zoM,kk]
 cases s.ev x <;> simp
 rename_i v
 cases v <;> simp
theorem zq1 (b:ByteArray) (x y:Operand):zk7 T rw s.ev .str 1 (.v (.string b)) (some x) (some y) none Kp = zoM (s.ev x) (kk fun l=>zoM (s.ev y) (kk fun h=>0 ≤ l∧l ≤ h∧h ≤ (b.size:Int)∧Kp (.v (.string (b.extract l.toNat h.toNat))))):=by
 simp only [zk7,zjg,zoM,kk]
 cases s.ev x <;> simp
 rename_i v
 cases v <;> simp
 rename_i q n
 cases s.ev y <;> try simp
 rename_i v
 cases v <;> try simp
def zq2 (T:Tab) (r:Row) (k ver:Nat) (ev:Operand→PV) (e z:Nat) (rw:Nat→Row) (lo hi mx:Option Operand) (K:PV→Prop):Prop :=
 k < 1000000∧r.ver = ver∧match r.kind with | .sli _ sz true c=>zk7 T rw ev (.sli e) z (.sl true sz c) lo hi mx K | _=>False
theorem zuS (e z k ver:Nat) (lo hi mx:Option Operand):zk7 T rw s.ev (.sli e) z (.own k ver) lo hi mx Kp = zq2 T (rw k) k ver s.ev e z rw lo hi mx Kp:=by
 have el:(k < lent) = (k < 1000000):=rfl
 simp only [zk7,zeP,zq2,el]
 cases (rw k).kind with
 | sli e' sz fz c =>
   cases fz <;> simp
   refine ⟨fun ⟨a,b,c,d,h⟩=>⟨b,c,a,d,h⟩,fun ⟨b,c,a,d,h⟩=>⟨a,b,c,d,h⟩⟩
 | _=>simp
theorem zj8 (e z k ver e' sz:Nat) (rw':Nat→Row) (c:List PV) (lo hi mx:Option Operand):zq2 T ⟨ver,.sli e' sz true c⟩ k ver s.ev e z rw' lo hi mx Kp = (k < 1000000∧zk7 T rw' s.ev (.sli e) z (.sl true sz c) lo hi mx Kp):=by simp [zq2]
theorem zuT {Kf:List Nat→PV→Prop} (t:TypeId) (fr:Bool) (z:Nat) (c:List PV) (lo hi mx:Option Operand):zBJ T s t (.sl fr z c) lo hi mx (kk Kf) = zbg T s.rw s.ev t (.sl fr z c) lo hi mx (kk fun p=>Kf [] p):=(rfl)
theorem zzd {Kf:List Nat→PV→Prop} (t:TypeId) (x:Value) (lo hi mx:Option Operand):zBJ T s t (.v x) lo hi mx (kk Kf) = zbg T s.rw s.ev t (.v x) lo hi mx (kk fun p=>Kf [] p):=(rfl)
def zuU (T:Tab) (s:St) (t:TypeId) (r:Row) (k ver:Nat) (lo hi mx:Option Operand) (K:List Nat→PV→Prop):Prop :=
 match r.kind with
 | .sli _ _ false _=>zbg T (s.freeze [k]).rw s.ev t (.own k ver) lo hi mx (kk fun p=>K [k] p)
 | _=>zbg T s.rw s.ev t (.own k ver) lo hi mx (kk fun p=>K [] p)
theorem zq3 {Kf:List Nat→PV→Prop} (t:TypeId) (k ver:Nat) (lo hi mx:Option Operand):zBJ T s t (.own k ver) lo hi mx (kk Kf) = zuU T s t (s.rw k) k ver lo hi mx (kk Kf):=(rfl)
theorem zie {Kf:List Nat→PV→Prop} (t:TypeId) (v e z:Nat) (c:List PV) (k ver:Nat) (lo hi mx:Option Operand):zuU T s t ⟨v,.sli e z false c⟩ k ver lo hi mx (kk Kf) = zbg T (s.freeze [k]).rw s.ev t (.own k ver) lo hi mx (kk fun p=>Kf [k] p):=(rfl)
theorem zng {Kf:List Nat→PV→Prop} (t:TypeId) (v e z:Nat) (c:List PV) (k ver:Nat) (lo hi mx:Option Operand):zuU T s t ⟨v,.sli e z true c⟩ k ver lo hi mx (kk Kf) = zbg T s.rw s.ev t (.own k ver) lo hi mx (kk fun p=>Kf [] p):=(rfl)
theorem zuV {Kc:List PV→Prop} (x:Value) (h:x.oneCell' = true):zaQ rw (.v x) Kc = Kc [.v x]:=by simp [zaQ,h]
theorem zq4 {Kc:List PV→Prop} (c:List PV):zaQ rw (.ag c) Kc = Kc c:=(rfl)
theorem zq5 {Kc:List PV→Prop} (fr:Bool) (sz:Nat) (c:List PV):zaQ rw (.sl fr sz c) Kc = Kc [.sl fr sz c]:=(rfl)
theorem znh {Kc:List PV→Prop} (f:FuncId) (c:List PV):zaQ rw (.clo f c) Kc = Kc [.clo f c]:=(rfl)
def zif (r:Row) (ver:Nat) (A:Prop):Prop:=r.ver = ver∧r.kind.slice = true∧A
theorem zni {Kc:List PV→Prop} (j ver:Nat):zaQ rw (.own j ver) Kc = zif (rw j) ver (kk (Kc [.own j ver])):=(rfl)
theorem zj9 (ver e sz:Nat) (fz:Bool) (c:List PV) (A:Prop):zif ⟨ver,.sli e sz fz c⟩ ver (kk A) = A:=by simp [zif,RK.slice,kk]
theorem zka (ver e:Nat) (c:List PV) (A:Prop):zif ⟨ver,.tab e c⟩ ver (kk A) = A:=by simp [zif,RK.slice,kk]
theorem znj {Kc:List PV→Prop} (j ver o:Nat):zaQ rw (.ref j ver o) Kc = zfW (rw j) ver (kk (Kc [.ref j ver o])):=(rfl)
theorem zze {Kc:List PV→List Nat→Prop} (x:Value) (h:x.oneCell' = true):zck rw (.v x) Kc = Kc [.v x] []:=by simp [zck,h]
theorem zuW {Kc:List PV→List Nat→Prop} (sz:Nat) (c:List PV):zck rw (.sl true sz c) Kc = Kc [.sl false sz c] []:=by simp [zck]
theorem zuX {Kc:List PV→List Nat→Prop} (c:List PV):zck rw (.ag c) Kc = ((∀ x ∈ c,isV x = true)∧Kc c []):=(rfl)
def zoN (r:Row) (k ver:Nat) (K:List PV→List Nat→Prop):Prop:=r.ver = ver∧k < lent∧(match r.kind with | .nil=>K [.sl false 1 []] [] | .sli _ sz _ c=>K [.sl false sz c] [k] | _=>False)
theorem zq6 {Kc:List PV→List Nat→Prop} (j ver:Nat):zck rw (.own j ver) Kc = zoN (rw j) j ver Kc:=(rfl)
theorem zig {Kc:List PV→List Nat→Prop} (j ver e sz:Nat) (fz:Bool) (c:List PV) (h:j < lent):zoN ⟨ver,.sli e sz fz c⟩ j ver Kc = Kc [.sl false sz c] [j]:=by simp [zoN,h]
def zgx (rw:Nat→Row) (l:List PV):Prop:=∀ p ∈ l,zjf rw p
theorem zuY (rw:Nat→Row) (l:List PV):(∀ p ∈ l,zjf rw p) = zgx rw l:=(rfl)
theorem zq7 (rw:Nat→Row):zgx rw [] = True:=by simp [zgx]
theorem znk (rw:Nat→Row) (p:PV) (l:List PV):zgx rw (p :: l) = (zjf rw p∧zgx rw l):=by simp [zgx]
def zdP (s:St) (z j ver off:Nat) (r:Row) (x:PV) (K:St→Prop):Prop:=0 < z∧r.ver = ver∧match r.kind with
 | .box bt c=>zaQ s.rw x fun new=>new.length = z∧off + new.length ≤ c.length∧zgx s.rw new∧K (s.row j ⟨ver,.box bt (spl c off new)⟩)
 | .sli e sz false c=>zck s.rw x fun new fz=>new.length = z∧off + new.length ≤ c.length∧j ∉ fz∧K ((s.freeze fz).row j ⟨ver,.sli e sz false (spl c off new)⟩)
 | .tab e c=>zaQ s.rw x fun new=>new.length = z∧off + new.length ≤ c.length∧zgx s.rw new∧K (s.row j ⟨ver,.tab e (spl c off new)⟩)
 | _=>False
theorem znl (j ver off e:Nat) (c:List PV) (x:PV):zdP s 1 j ver off ⟨ver,.tab e c⟩ x K = zaQ s.rw x (kk fun new=>new.length = 1∧off + new.length ≤ c.length∧zgx s.rw new∧K (s.row j ⟨ver,.tab e (spl c off new)⟩)):=by
 simp only [zdP,Nat.one_pos,true_and,kk]
theorem zq8 (t:TypeId) (j ver off:Nat) (x:PV):zn8 T s t (.ref j ver off) x K = zdP s (T t).size j ver off (s.rw j) x K:=(rfl)
theorem zih [zah]:s.freeze [] = s:=St.freeze_nil s
theorem znm (j ver off e sz:Nat) (c:List PV) (x:PV):zdP s 1 j ver off ⟨ver,.sli e sz false c⟩ x K = zck s.rw x (kk fun new fz=>new.length = 1∧off + new.length ≤ c.length∧j ∉ fz∧K ((s.freeze fz).row j ⟨ver,.sli e sz false (spl c off new)⟩)):=by
 simp only [zdP,Nat.one_pos,true_and,kk]
theorem zfh (z j ver off:Nat) (bt:TypeId) (c:List PV) (x:PV):zdP s (z + 1) j ver off ⟨ver,.box bt c⟩ x K = zaQ s.rw x (kk fun new=>new.length = z + 1∧off + new.length ≤ c.length∧zgx s.rw new∧K (s.row j ⟨ver,.box bt (spl c off new)⟩)):=by
 simp only [zdP,Nat.zero_lt_succ,true_and,kk]
theorem zkb [zah] (j ver off:Nat) (bt:TypeId) (c:List PV) (x:PV):zdP s 1 j ver off ⟨ver,.box bt c⟩ x K = zaQ s.rw x (kk fun new=>new.length = 1∧off + new.length ≤ c.length∧zgx s.rw new∧K (s.row j ⟨ver,.box bt (spl c off new)⟩)):=zfh 0 j ver off bt c x
theorem zkc [zah] (j ver off:Nat) (bt:TypeId) (c:List PV) (x:PV):zdP s 2 j ver off ⟨ver,.box bt c⟩ x K = zaQ s.rw x (kk fun new=>new.length = 2∧off + new.length ≤ c.length∧zgx s.rw new∧K (s.row j ⟨ver,.box bt (spl c off new)⟩)):=zfh 1 j ver off bt c x
theorem zzf (rw:Nat→Row) (v:Value):zjf rw (.v v) = (v.oneCell' = true):=(rfl)
theorem zuZ (rw:Nat→Row) (fr:Bool) (z:Nat) (c:List PV):zjf rw (.sl fr z c) = True:=(rfl)
theorem znn (rw:Nat→Row) (fr:Bool) (c:List PV) (o:Nat):zjf rw (.eref fr c o) = True:=(rfl)
theorem zq9 (rw:Nat→Row) (f:FuncId) (c:List PV):zjf rw (.clo f c) = True:=(rfl)
theorem zra (rw:Nat→Row) (j v:Nat):zjf rw (.own j v) = zif (rw j) v (kk True):=by simp [zjf,zif,kk]
theorem zrb (rw:Nat→Row) (j v o:Nat):zjf rw (.ref j v o) = zfW (rw j) v (kk True):=by simp [zjf,zfW,kk]
theorem zkd [zah] (j ver off:Nat) (bt:TypeId) (c:List PV) (x:PV):zdP s 3 j ver off ⟨ver,.box bt c⟩ x K = zaQ s.rw x (kk fun new=>new.length = 3∧off + new.length ≤ c.length∧zgx s.rw new∧K (s.row j ⟨ver,.box bt (spl c off new)⟩)):=zfh 2 j ver off bt c x
theorem zke [zah] (j ver off:Nat) (bt:TypeId) (c:List PV) (x:PV):zdP s 4 j ver off ⟨ver,.box bt c⟩ x K = zaQ s.rw x (kk fun new=>new.length = 4∧off + new.length ≤ c.length∧zgx s.rw new∧K (s.row j ⟨ver,.box bt (spl c off new)⟩)):=zfh 3 j ver off bt c x
def zii (T:Tab) (rw:Nat→Row) (y:PV) (K:List PV→Prop):Prop:=slK rw y fun fr sz news=>sz = 1∧((∀ p ∈ news,isV p = true) ∨ (fr = true∧∀ p ∈ news,zoC p = true))∧K news
def zij (T:Tab) (s:St) (d j ver e:Nat) (r:Row) (news:List PV) (K:St→Prop):Prop:=r.ver = ver∧match r.kind with
 | .nil=>news.length * (T e).bytes ≤ 140737488355328∧K (zcv s d j (.sli e 1 false news))
 | .sli e' sz' false c=>e' = e∧sz' = 1∧(c.length + news.length) * (T e).bytes ≤ 140737488355328∧K (zcv s d j (.sli e 1 false (c ++ news)))
 | _=>False
def zCS (T:Tab) (s:St) (d e:Nat) (x:PV) (news:List PV) (K:St→Prop):Prop:=match x with
 | .v u=>zc5 u = true∧news.length * (T e).bytes ≤ 140737488355328∧K (zcl s d (.sli e 1 false news) (fun v=>.own d v))
 | .own j ver=>zij T s d j ver e (s.rw j) news K
 | _=>False
def zDP (T:Tab) (s:St) (d:Nat) (kd:TK) (z:Nat) (x y:PV) (K:St→Prop):Prop :=
 0 < z∧match kd with
 | .sli e=>0 < (T e).size∧0 < (T e).bytes∧slK s.rw y fun fr sz news=>sz = (T e).size∧((∀ p ∈ news,isV p = true) ∨ (fr = true∧∀ p ∈ news,zoC p = true)) ∧
  (match x with
  | .v u=>zc5 u = true∧news.length * (T e).bytes ≤ 140737488355328∧K (zcl s d (.sli e (T e).size false news) (fun v=>.own d v))
  | .own k ver=>(s.rw k).ver = ver∧(match (s.rw k).kind with
   | .nil=>news.length * (T e).bytes ≤ 140737488355328∧K (zcv s d k (.sli e (T e).size false news))
   | .sli e' sz' false c=>e' = e∧sz' = (T e).size∧(c.length + news.length) * (T e).bytes ≤ 140737488355328∧K (zcv s d k (.sli e (T e).size false (c ++ news)))
   | _=>False)
  | _=>False)
 | _=>False
theorem zno (d:Nat) (t:TypeId) (x y:PV):ziG T s d t t x y K = zDP T s d (T t).k (T t).size x y K:=propext ⟨fun h=>h.2,fun h=>⟨rfl,h⟩⟩
theorem zrc {d e:Nat} (x y:PV) (h2:(T e).size = 1) (h3:0 < (T e).bytes):zDP T s d (.sli e) 1 x y K = zii T s.rw y (kk fun news=>zCS T s d e x news (kk K)):=by
 unfold zDP zii
 simp only [h2,h3,true_and,kk,Nat.one_pos]
 unfold zCS zij
 cases x <;> rfl
theorem zrd (d e j ver:Nat) (news:List PV):zCS T s d e (.own j ver) news K = zij T s d j ver e (s.rw j) news K:=(rfl)
theorem zre (d e:Nat) (news:List PV):zCS T s d e (.v (.slice none 0 0)) news K = (news.length * (T e).bytes ≤ 140737488355328∧K (zcl s d (.sli e 1 false news) (fun v=>.own d v))):=by simp [zCS,zc5]
theorem zkf (d j ver e:Nat) (c news:List PV):zij T s d j ver e ⟨ver,.sli e 1 false c⟩ news K = ((c.length + news.length) * (T e).bytes ≤ 140737488355328∧K (zcv s d j (.sli e 1 false (c ++ news)))):=by simp [zij]
theorem zkg (d j ver e:Nat) (news:List PV):zij T s d j ver e ⟨ver,.nil⟩ news K = (news.length * (T e).bytes ≤ 140737488355328∧K (zcv s d j (.sli e 1 false news))):=by simp [zij]
variable {Kc:List PV→Prop}
theorem zu0 (c:List PV) (h:∀ p ∈ c,isV p = true) (fr:Bool):zii T rw (.sl fr 1 c) Kc = Kc c:=by
 have e:(∀ p ∈ c,isV p = true) = True:=eq_true h
 simp only [zii,slK,e,true_or,true_and]
theorem zu1 [zah] (xs:List Int) (fr:Bool):zii T rw (.sl fr 1 (iL xs)) Kc = Kc (iL xs):=zu0 _ (by simpa using ztI xs) fr
theorem zu2 [zah] (k:IntKind) (xs:List Int) (fr:Bool):zii T rw (.sl fr 1 (kL k xs)) Kc = Kc (kL k xs):=zu0 _ (by simpa using zCn k xs) fr
theorem zu3 [zah] (xs:List ByteArray) (fr:Bool):zii T rw (.sl fr 1 (sL xs)) Kc = Kc (sL xs):=zu0 _ (by simpa using zCo xs) fr
theorem zrf [zah] (xs:List (List Int)):zii T rw (.sl true 1 (iLL xs)) Kc = Kc (iLL xs):=by
 have:∀ p ∈ iLL xs,zoC p = true:=by simpa using zxf xs
 simp only [zii,slK,true_and,true_or,eq_true this,or_true]
def zso (c:List PV):Prop:=∀ p ∈ c,zoC p = true
def zsp (r:Row) (ver:Nat) (K:List PV→Prop):Prop:=r.ver = ver∧match r.kind with | .nil=>K [] | .sli _ sz _ c=>sz = 1∧zso c∧K c | _=>False
theorem znp (j ver:Nat):zii T rw (.own j ver) Kc = zsp (rw j) ver Kc:=by
 unfold zii slK zsp
 dsimp only
 generalize (rw j).kind = kd
 cases kd with
 | sli e sz fz c =>
   dsimp only
   refine propext ⟨fun ⟨a,b,h,d⟩=>⟨a,b,?_,d⟩,fun ⟨a,b,h,d⟩=>⟨a,b,.inr ⟨rfl,h⟩,d⟩⟩
   rcases h with h | h
   ·intro p hp
    have:=h p hp
    cases p <;> simp [isV] at this
    exact this
   ·exact h.2
 | nil=>simp
 | _=>simp
theorem znq (ver e:Nat) (fz:Bool) (c:List PV):zsp ⟨ver,.sli e 1 fz c⟩ ver Kc = (zso c∧Kc c):=by simp [zsp]
theorem znr (ver:Nat):zsp ⟨ver,.nil⟩ ver Kc = Kc []:=by simp [zsp]
theorem zrg:zso [] = True:=by simp [zso]
theorem zu4 (xs:List Int):zso (iL xs) = True:=by simp [zso,iL,zoC,Value.oneCell']
theorem zu5 (k:IntKind) (xs:List Int):zso (kL k xs) = True:=by simp [zso,kL,zoC,Value.oneCell']
theorem zu6 (xs:List ByteArray):zso (sL xs) = True:=by simp [zso,sL,zoC,Value.oneCell']
theorem zu7 (xs:List Bool):zso (bL xs) = True:=eq_true fun p hp=>by
 simp only [bL,List.mem_map] at hp
 obtain ⟨x,_,rfl⟩:=hp
 rfl
theorem zrh (xs:List (List Int)):zso (iLL xs) = True:=by simp [zso,iLL,zoC]
theorem zns (j:Nat):[j].Nodup = True:=by simp
theorem znt (i j:Nat):[i,j].Nodup = (i ≠ j):=by simp
theorem zu8 (j:Nat):(j < lent) = (j < 1000000):=(rfl)
theorem zCT (v u:Value) {Kn:List Nat→Prop}:zoU rw (.v v) (.im (.v u)) Kn = (PV.v u = PV.v v∧Kn []):=(rfl)
def znu (r:Row) (j ver e sz:Nat) (c:List PV) (K:List Nat→Prop):Prop:=j < lent∧r.ver = ver∧(match r.kind with
 | .nil=>c = []∧K []
 | .sli e' sz' false c'=>e' = e∧sz' = sz∧c' = c∧K [j]
 | _=>False)
theorem zu9 (j ver e sz:Nat) (c:List PV) {Kn:List Nat→Prop}:zoU rw (.own j ver) (.fr e sz c) Kn = znu (rw j) j ver e sz c Kn:=(rfl)
theorem zkh (j ver e sz:Nat) (c c':List PV) {Kn:List Nat→Prop} (h:j < lent):znu ⟨ver,.sli e sz false c'⟩ j ver e sz c Kn = (c' = c∧Kn [j]):=by simp [znu,h]
theorem zri {t:Nat} {rv:RV}:zsq T s [.tmp t] rv = zoU s.rw (s.sl t) rv List.Nodup:=(rfl)
theorem znv {a:Nat} {t:TypeId} {rv:RV}:zsq T s [.cell a t] rv = zoD s.rw (s.sl a) (kk fun m c off=>ldK T t m c off (kk fun p=>zoU s.rw p rv List.Nodup)):=(rfl)
theorem zrj {r1 r2:ResultVar} {rv:RV}:zsq T s [r1,r2] rv = ztk T s [r1,r2] (kk fun ps=>zoU s.rw (.tup ps) rv List.Nodup):=(rfl)
theorem zki {r1 r2 r3:ResultVar} {rv:RV}:zsq T s [r1,r2,r3] rv = ztk T s [r1,r2,r3] (kk fun ps=>zoU s.rw (.tup ps) rv List.Nodup):=(rfl)
theorem zrk (Kr:List PV→Prop):ztk T s [] (kk Kr) = Kr []:=(rfl)
theorem zrl (t:Nat) (rs:List ResultVar) (Kr:List PV→Prop):ztk T s (.tmp t :: rs) (kk Kr) = evK (s.sl t) (kk fun p=>ztk T s rs (kk fun ps=>Kr (p :: ps))):=(rfl)
theorem znw (a:Nat) (t:TypeId) (rs:List ResultVar) (Kr:List PV→Prop):ztk T s (.cell a t :: rs) (kk Kr) = zoD s.rw (s.sl a) (kk fun m c off=>ldK T t m c off (kk fun p=>ztk T s rs (kk fun ps=>Kr (p :: ps)))):=(rfl)
theorem zrm (e sz:Nat) (c:List PV) {Kn:List Nat→Prop}:zoU rw (.v (.slice none 0 0)) (.fr e sz c) Kn = (c = []∧Kn []):=by simp [zoU,zlc,zc5]
theorem zrn (e sz:Nat) (c:List PV) {Kn:List Nat→Prop}:zvn rw (.v (.slice none 0 0)) (.fr e sz c) Kn = (c = []∧Kn []):=by simp [zvn,zlc,zc5]
theorem zro (e sz:Nat) (c:List PV) {Kn:List Nat→Prop}:zlc rw (.v (.slice none 0 0)) (.fr e sz c) Kn = (c = []∧Kn []):=by simp [zlc,zc5]
theorem zkj [zah] (d e sz:Nat) (y:Value) (c:List PV):zam s d (.tup [.ag [.fr e sz c],.im (.v y)]) = (s.row d ⟨(s.rw d).ver + 1,.sli e sz false c⟩).put (some d) (.tup [.ag [.own d ((s.rw d).ver + 1)],.v y]):=by
 unfold zam
 simp [zbf,zbs,leaves,zau,zaJ,zbk,za8,zaU,zan,St.row,zd1]
 rfl
theorem zkk [zah] (d e sz:Nat) (x y:Value) (c:List PV):zam s d (.tup [.ag [.im (.v x),.fr e sz c],.im (.v y)]) = (s.row d ⟨(s.rw d).ver + 1,.sli e sz false c⟩).put (some d) (.tup [.ag [.v x,.own d ((s.rw d).ver + 1)],.v y]):=by
 unfold zam
 simp [zbf,zbs,leaves,zau,zaJ,zbk,za8,zaU,zan,St.row,zd1]
 rfl
theorem znx [zah] (d e sz:Nat) (y:Value) (c:List PV):zam s d (.tup [.ag [.fr e sz c],.im (.v y)]) = (s.row d ⟨(s.rw d).ver + 1,.sli e sz false c⟩).put (some d) (.tup [.ag [.own d ((s.rw d).ver + 1)],.v y]):=by
 unfold zam
 simp [zbf,zbs,leaves,zau,zaJ,zbk,za8,zaU,zan,St.row,zd1]
 rfl
theorem zcQ (d:Nat) (v:Value):zam s d (.im (.v v)) = s.put (some d) (.v v):=by
 unfold zam
 simp [leaves,zau,zaJ,za8,zd1]
theorem zrp [zah] {f:FuncId} {raw lent:List PV} {k d:Nat} {x:Value} {r:Row} {Ke:Ent→St→Prop} {Ka:RV→Prop} {us:Dm s} {u:Dm Ke} (rd:List Nat) (h:∀ s':St,s'.rw k = s.rw k→(∀ a ∈ rd,s'.rw a = s.rw a)→∀ K':St→Prop,K' ((s'.row k r).put (some d) (.v x))→askG P s' f raw (some d) K') (hd:d % 1000 ≠ k % 1000)
 (hk:Ke ⟨rd,.ids [d,k]⟩ ((s.row k r).put (some d) (.v x))):zhS P f lent Ka (zBM P f raw d (kk s us) (kk Ke u)) :=
 zxk (x:=.im (.v x)) (r:=r) rd (fun s' h1 h2 K' hk'=>h s' h1 h2 K' (by rw [zcQ] at hk';exact hk')) hd (by rw [zcQ];exact hk)
theorem zhg (d e sz:Nat) (c:List PV):zam s d (.fr e sz c) = (s.row d ⟨(s.rw d).ver + 1,.sli e sz false c⟩).put (some d) (.own d ((s.rw d).ver + 1)):=by
 unfold zam
 simp [leaves,zau,zaJ,za8,zan,St.row]
 rfl
theorem zny [zah] (d e sz:Nat) (c:List PV):zam s d (.ag [.fr e sz c]) = (s.row d ⟨(s.rw d).ver + 1,.sli e sz false c⟩).put (some d) (.ag [.own d ((s.rw d).ver + 1)]):=by
 unfold zam
 simp [zbs,leaves,zau,zaJ,zbk,zaU,za8,zan,St.row]
 rfl
theorem znz [zah] (d e sz:Nat) (x:Value) (c:List PV):zam s d (.ag [.im (.v x),.fr e sz c]) = (s.row d ⟨(s.rw d).ver + 1,.sli e sz false c⟩).put (some d) (.ag [.v x,.own d ((s.rw d).ver + 1)]):=by
 unfold zam
 simp [zbs,leaves,zau,zaJ,zbk,zaU,za8,zan,St.row,zd1]
 rfl
theorem znA [zah] (d e sz e2 sz2:Nat) (x y:Value) (c c2:List PV):zam s d (.ag [.im (.v x),.fr e sz c,.im (.v y),.fr e2 sz2 c2]) =
 ((s.row (d + 1000) ⟨(s.rw (d + 1000)).ver + 1,.sli e2 sz2 false c2⟩).row d ⟨(s.rw d).ver + 1,.sli e sz false c⟩).put (some d) (.ag [.v x,.own d ((s.rw d).ver + 1),.v y,.own (d + 1000) ((s.rw (d + 1000)).ver + 1)]):=by
 unfold zam
 simp [zbs,leaves,zau,zaJ,zbk,zaU,za8,zan,St.row,zd1]
 rfl
theorem znB [zah] (d:Nat) (x y:Value):zam s d (.tup [.im (.v x),.im (.v y)]) = s.put (some d) (.tup [.v x,.v y]):=by
 unfold zam
 simp [zbf,leaves,zau,zaJ,zbk,zaU,za8,zan,St.row,zd1]
theorem znC [zah] (d e sz:Nat) (c:List PV) (y:Value):zam s d (.tup [.fr e sz c,.im (.v y)]) = (s.row d ⟨(s.rw d).ver + 1,.sli e sz false c⟩).put (some d) (.tup [.own d ((s.rw d).ver + 1),.v y]):=by
 unfold zam
 simp [zbf,leaves,zau,zaJ,zbk,zaU,za8,zan,St.row,zd1]
 rfl
theorem imm_ag [zah] (l:List RV):(RV.ag l).imm = .ag (l.map RV.imm):=RV.imm_ag l
theorem imm_tup [zah] (l:List RV):(RV.tup l).imm = .tup (l.map RV.imm):=RV.imm_tup l
theorem zva (ps:List PV) (l:List RV) {Kn:List Nat→Prop}:zoU rw (.ag ps) (.ag l) Kn = zoB (zvn rw) ps l Kn:=(rfl)
theorem zrq (ps:List PV) (l:List RV) {Kn:List Nat→Prop}:zoU rw (.tup ps) (.tup l) Kn = zoB (zvn rw) ps l Kn:=(rfl)
theorem zvb (ps:List PV) (l:List RV) {Kn:List Nat→Prop}:zvn rw (.ag ps) (.ag l) Kn = zoB (zlc rw) ps l Kn:=(rfl)
theorem zrr (f:PV→RV→(List Nat→Prop)→Prop) {Kn:List Nat→Prop}:zoB f [] [] Kn = Kn []:=(rfl)
theorem znD (f:PV→RV→(List Nat→Prop)→Prop) (p:PV) (ps:List PV) (r:RV) (rs:List RV) {Kn:List Nat→Prop}:zoB f (p :: ps) (r :: rs) Kn = f p r (kk fun a=>zoB f ps rs (kk fun b=>Kn (a ++ b))):=(rfl)
theorem zzg (v u:Value) {Kn:List Nat→Prop}:zvn rw (.v v) (.im (.v u)) Kn = (PV.v u = PV.v v∧Kn []):=(rfl)
theorem zkl (e e2:Nat) (rows:List (List PV)) {Kn:List Nat→Prop}:zlc rw (.v (.slice none 0 0)) (.tb e e2 rows) (kk Kn) = (rows = []∧Kn []):=by simp [zlc,zc5,kk]
theorem zzh (v u:Value) {Kn:List Nat→Prop}:zlc rw (.v v) (.im (.v u)) Kn = (PV.v u = PV.v v∧Kn []):=(rfl)
theorem zrs (j ver e sz:Nat) (c:List PV) {Kn:List Nat→Prop}:zvn rw (.own j ver) (.fr e sz c) Kn = znu (rw j) j ver e sz c Kn:=(rfl)
theorem zrt (j ver e sz:Nat) (c:List PV) {Kn:List Nat→Prop}:zlc rw (.own j ver) (.fr e sz c) Kn = znu (rw j) j ver e sz c Kn:=(rfl)
theorem zzi (v:Value):(RV.im (.v v)).imm = .v v:=by simp [RV.imm,zd1]
theorem zzj (e sz:Nat) (c:List PV):(RV.fr e sz c).imm = .sl true sz c:=by simp [RV.imm]
theorem zru (rw:Nat→Row) (n:Nat) (k:IntKind) (x:Int):zb5 rw (n + 1) (.v (.int k x)) = .v (.int k x):=(rfl)
theorem znE (rw:Nat→Row) (n:Nat) (x:Bool):zb5 rw (n + 1) (.v (.bool x)) = .v (.bool x):=(rfl)
theorem zik (rw:Nat→Row) (n:Nat) (x:ByteArray):zb5 rw (n + 1) (.v (.string x)) = .v (.string x):=(rfl)
theorem zrv (rw:Nat→Row) (n:Nat):zb5 rw (n + 1) (.v (.slice none 0 0)) = .sl false 1 []:=(rfl)
theorem zvc (rw:Nat→Row) (n:Nat) (fr:Bool) (sz:Nat) (c:List PV):zb5 rw (n + 1) (.sl fr sz c) = .sl false sz c:=(rfl)
theorem zvd (rw:Nat→Row) (n:Nat) (c:List PV):zb5 rw (n + 1) (.ag c) = .ag (c.map (zb5 rw n)):=(rfl)
theorem znF (rw:Nat→Row) (n:Nat) (fr:Bool) (c:List PV) (o:Nat):zb5 rw (n + 1) (.eref fr c o) = .eref false c o:=(rfl)
def zil (rw:Nat→Row) (n:Nat) (r:Row) (ver off:Nat):PV:=if r.ver = ver then (match r.kind with | .box _ c=>.eref false (c.map (zb5 rw n)) off | .sli _ _ _ c=>.eref false c off | _=>.junk) else .junk
theorem zrw (rw:Nat→Row) (n j ver off:Nat):zb5 rw (n + 1) (.ref j ver off) = zil rw n (rw j) ver off:=(rfl)
theorem zim (rw:Nat→Row) (n ver off:Nat) (t:TypeId) (c:List PV):zil rw n ⟨ver,.box t c⟩ ver off = .eref false (c.map (zb5 rw n)) off:=by simp [zil]
theorem zin (rw:Nat→Row) (n ver off e z:Nat) (fz:Bool) (c:List PV):zil rw n ⟨ver,.sli e z fz c⟩ ver off = .eref false c off:=by simp [zil]
theorem zrx (rw:Nat→Row) (n:Nat) (f:FuncId) (c:List PV):zb5 rw (n + 1) (.clo f c) = .clo f (c.map (zb5 rw n)):=(rfl)
def zeM (rw:Nat→Row) (n:Nat) (r:Row) (ver:Nat):PV:=if r.ver = ver then (match r.kind with | .nil=>.sl false 1 [] | .sli _ sz _ c=>.sl false sz c | .tab _ c=>.sl false 1 (c.map (zes rw)) | _=>.junk) else .junk
theorem zry (rw:Nat→Row) (n j ver:Nat):zb5 rw (n + 1) (.own j ver) = zeM rw n (rw j) ver:=(rfl)
theorem zio (rw:Nat→Row) (n:Nat) (ver e:Nat) (c:List PV):zeM rw n ⟨ver,.tab e c⟩ ver = .sl false 1 (c.map (zes rw)):=by simp [zeM]
theorem zip (rw:Nat→Row) (n:Nat) (ver e sz:Nat) (fz:Bool) (c:List PV):zeM rw n ⟨ver,.sli e sz fz c⟩ ver = .sl false sz c:=by simp [zeM]
theorem ziq (rw:Nat→Row) (n:Nat) (ver:Nat):zeM rw n ⟨ver,.nil⟩ ver = .sl false 1 []:=by simp [zeM]
end
def zoO:PV→Prop | .sl _ sz c=>c.length ≤ 9223372036854775807 * sz | _=>True
def zfX:PV→Prop | .sl _ sz c=>c.length ≤ 9223372036854775807 * sz∧∀ p ∈ c,zoO p | .ag c=>∀ p ∈ c,zoO p | .eref _ c _=>∀ p ∈ c,zoO p | _=>True
def zdn:PV→Prop | .sl _ sz c=>c.length ≤ 9223372036854775807 * sz∧∀ p ∈ c,zfX p | .ag c=>∀ p ∈ c,zfX p | .eref _ c _=>∀ p ∈ c,zfX p | .clo _ c=>∀ p ∈ c,zfX p | _=>True
def zw6:List PV→Prop | []=>True | p :: ps=>zdn p∧zw6 ps
theorem zk8 {w:World} {E:Env} {lo:Nat} {p:PV} {x:Value} (h:Rep w E lo p x):zoO p:=by
 cases h <;> try trivial
 next sz len cap cells a cs hl hc hm hr hh =>
  show cells.length ≤ 9223372036854775807 * sz
  rw [hl]
  exact Nat.mul_le_mul_right _ (Nat.le_trans hc hm)
theorem zhh [zah] {w:World} {E:Env} {lo:Nat} {p:PV} {x:Value} (h:Rep w E lo p x):zfX p:=by
 cases h <;> try trivial
 case sl fr sz len cap cells a cs hl hc hm hr hh =>
  refine ⟨?_,fun p hp=>?_⟩
  ·rw [hl];exact Nat.mul_le_mul_right _ (Nat.le_trans hc hm)
  ·obtain ⟨i,hi,rfl⟩:=List.getElem_of_mem hp;exact zk8 (hh i hi)
 case eref fr cells off b o cs hr hh=>intro p hp;obtain ⟨i,hi,rfl⟩:=List.getElem_of_mem hp;exact zk8 (hh i hi)
 case ag cells vs hl hh=>intro p hp;obtain ⟨i,hi,rfl⟩:=List.getElem_of_mem hp;exact zk8 (hh i hi (by omega))
theorem zxl [zah] {w:World} {E:Env} {lo:Nat} {p:PV} {x:Value} (h:Rep w E lo p x):zdn p:=by
 cases h <;> try trivial
 case sl fr sz len cap cells a cs hl hc hm hr hh =>
  refine ⟨?_,fun p hp=>?_⟩
  ·rw [hl];exact Nat.mul_le_mul_right _ (Nat.le_trans hc hm)
  ·obtain ⟨i,hi,rfl⟩:=List.getElem_of_mem hp;exact zhh (hh i hi)
 case eref fr cells off b o cs hr hh=>intro p hp;obtain ⟨i,hi,rfl⟩:=List.getElem_of_mem hp;exact zhh (hh i hi)
 case ag cells vs hl hh=>intro p hp;obtain ⟨i,hi,rfl⟩:=List.getElem_of_mem hp;exact zhh (hh i hi (by omega))
 case clo f cells vs hl hh=>intro p hp;obtain ⟨i,hi,rfl⟩:=List.getElem_of_mem hp;exact zhh (hh i hi (by omega))
theorem zve [zah] {w:World} {E:Env} {lo:Nat} {ps:List PV} {vs:List Value} (h:za1 w E lo ps vs):zw6 ps:=by
 have:∀ p ∈ ps,zdn p:=by
  intro p hp
  obtain ⟨i,hi,rfl⟩:=List.getElem_of_mem hp
  exact zxl (h.2 i hi (by rw [← h.1];exact hi))
 clear h
 induction ps with
 | nil=>trivial
 | cons p ps ih=>exact ⟨this p (by simp),ih fun q hq=>this q (by simp [hq])⟩
theorem zaN:zw6 [] = True:=(rfl)
theorem zaH (p:PV) (ps:List PV):zw6 (p :: ps) = (zdn p∧zw6 ps):=(rfl)
theorem zfY (x:Value):zdn (.v x) = True:=(rfl)
theorem zoP (x:Value):zfX (.v x) = True:=(rfl)
theorem zxm (fr:Bool) (xs:List Int):zoO (.sl fr 1 (iL xs)) = (xs.length ≤ 9223372036854775807):=by simp [zoO,iL]
theorem zhi (fr:Bool) (xs:List Int):zfX (.sl fr 1 (iL xs)) = (xs.length ≤ 9223372036854775807):=by simp [zfX,zoO,iL]
theorem zb2 (fr:Bool) (xs:List Int):zdn (.sl fr 1 (iL xs)) = (xs.length ≤ 9223372036854775807):=by simp [zdn,zfX,iL]
theorem zci [zah] (fr:Bool) (xs:List (List Int)):zfX (.sl fr 1 (iLL xs)) = (xs.length ≤ 9223372036854775807∧∀ r ∈ xs,r.length ≤ 9223372036854775807):=by simp [zfX,iLL,zxm]
theorem zvf [zah] (fr:Bool) (xs:List (List Int)):zdn (.sl fr 1 (iLL xs)) = (xs.length ≤ 9223372036854775807∧∀ r ∈ xs,r.length ≤ 9223372036854775807):=by simp [zdn,iLL,zhi]
theorem zir (x y:PV):zdn (.ag [x,y]) = (zfX x∧zfX y):=by simp [zdn]
theorem AC.go [zah] {f:FuncId} {fn:Func} {c:Code} {rs:List ResultVar} {args:List PV} {rv:RV} (hT:T.Ok P) (hm:P.follows .mixedOrders = true) (hf:P.funcs[f]? = some fn) (hname:(fn.name == "runtime.NumGoroutine") = false)
 (hb:fn.body = some c) (hr:fn.results.toList = rs) (hfit:(fits fn.ntmps c && decide (args.length ≤ fn.ntmps) && decide (fn.results.toList.length ≤ 4)) = true) (h:zw6 args→cwp P T c (zDB T rs rv) (St.init args)):AC P f args rv:=by
 subst hr
 refine ⟨⟨fn,hf,hname,by rw [hb];rfl⟩,fun w vals hphi hv=>?_⟩
 exact (AC.of hT hm hf hname hb hfit (h (zve hv))).2 w vals hphi hv
theorem AM.go [zah] {f:FuncId} {fn:Func} {c:Code} {rs:List ResultVar} {args:List PV} {ins:List LR} {outs:List (List PV)} {x:Value} (hT:T.Ok P) (hm:P.follows .mixedOrders = true) (hf:P.funcs[f]? = some fn) (hname:(fn.name == "runtime.NumGoroutine") = false)
 (hb:fn.body = some c) (hr:fn.results.toList = rs) (hfit:(fits fn.ntmps c && decide (args.length ≤ fn.ntmps) && decide (fn.results.toList.length ≤ 4)) = true) (hi:∀ r ∈ ins,zbY r.c) (ho:∀ c ∈ outs,zbY c) (hlen:outs.length = ins.length)
 (h:(∀ r ∈ ins,r.c.length ≤ 9223372036854775807 * r.sz)→cwp P T c (zDA T rs ins outs x) (St.initM args ins)):AM P f args ins outs x:=by
 subst hr
 exact AM.of hT hm hf hname hb hfit hi ho hlen h
theorem zcR [zah] (xs:List Int):zbY (iL xs):=by have:=ztI xs;unfold zbY;rw [this];trivial
theorem zhj (args:List PV) (ins:List LR) (i:Nat):(St.initM args ins).sl i = args.getD i .junk:=(rfl)
theorem zhk (args:List PV) (ins:List LR) (i:Nat):(St.initM args ins).rw i = inR ins i:=(rfl)
theorem zrz (ins:List LR) (k:Nat) (h:k < 1000000):inR ins k = ⟨0,.dead⟩:=by
 unfold inR;rw [if_neg (by show ¬ (1000000 ≤ k);omega)]
theorem zxn [zah] (e sz:Nat) (c:List PV) (l:List LR):inR (⟨e,sz,c⟩ :: l) 1000000 = ⟨1,.sli e sz false c⟩:=zn4 (ins:=⟨e,sz,c⟩ :: l) (i:=0) rfl
theorem zxo [zah] (r:LR) (e sz:Nat) (c:List PV) (l:List LR):inR (r :: ⟨e,sz,c⟩ :: l) 1000001 = ⟨1,.sli e sz false c⟩:=zn4 (ins:=r :: ⟨e,sz,c⟩ :: l) (i:=1) rfl
theorem zrA (rs:List ResultVar) (ins:List LR) (outs:List (List PV)) (x:Value):zDA T rs ins outs x .ret s = zzK T s rs ins outs x:=(rfl)
theorem znG (rs:List ResultVar) (ins:List LR) (outs:List (List PV)) (x:Value):zDA T rs ins outs x .norm s = zzK T s rs ins outs x:=(rfl)
theorem zrB (r:Nat) (ins:List LR) (outs:List (List PV)) (x:Value):zzK T s [.tmp r] ins outs x = (zoT s.rw 0 ins outs∧s.sl r = .v x):=(rfl)
theorem znH (ins:List LR) (outs:List (List PV)) (x:Value):zzK T s [] ins outs x = (zoT s.rw 0 ins outs∧x = .tuple #[]):=(rfl)
theorem zvg (rw:Nat→Row) (e sz:Nat) (a c:List PV):zoT rw 0 [⟨e,sz,a⟩] [c] = (rw 1000000 = ⟨1,.sli e sz false c⟩):=by
 show (rw 1000000 = ⟨1,.sli e sz false c⟩∧True) = _
 rw [and_true]
theorem zvh (rw:Nat→Row) (e sz e' sz':Nat) (a c a' c':List PV):zoT rw 0 [⟨e,sz,a⟩,⟨e',sz',a'⟩] [c,c'] = (rw 1000000 = ⟨1,.sli e sz false c⟩∧rw 1000001 = ⟨1,.sli e' sz' false c'⟩):=by
 show (rw 1000000 = ⟨1,.sli e sz false c⟩∧rw 1000001 = ⟨1,.sli e' sz' false c'⟩∧True) = _
 rw [and_true]
theorem zk9 (j v e sz:Nat) (a c:List PV):s.wrote [(j,v)] [⟨e,sz,a⟩] [c] = s.row j ⟨v,.sli e sz false c⟩:=by
 unfold St.wrote St.row zcU
 congr 1
 funext k
 by_cases h:k = j
 ·subst h;simp
 ·have:(j == k) = false:=by simp;exact fun e=>h e.symm
  simp [h,this]
theorem zla [zah] (j v e sz j' v' e' sz':Nat) (a c a' c':List PV) (hj:j ≠ j'):s.wrote [(j,v),(j',v')] [⟨e,sz,a⟩,⟨e',sz',a'⟩] [c,c'] = (s.row j ⟨v,.sli e sz false c⟩).row j' ⟨v',.sli e' sz' false c'⟩:=by
 have hn:([(j,v),(j',v')].map (·.1)).Nodup:=by simpa using hj
 unfold St.wrote St.row
 congr 1
 funext k
 show zcU s.rw [(j,v),(j',v')] [⟨e,sz,a⟩,⟨e',sz',a'⟩] [c,c'] k = if k = j' then ⟨v',.sli e' sz' false c'⟩ else if k = j then ⟨v,.sli e sz false c⟩ else s.rw k
 by_cases h:k = j'
 ·subst h
  rw [if_pos rfl]
  exact ziF hn (i:=1) (j:=(k,v')) (r:=⟨e',sz',a'⟩) (c:=c') rfl rfl rfl
 ·rw [if_neg h]
  by_cases h':k = j
  ·subst h'
   rw [if_pos rfl]
   exact ziF hn (i:=0) (j:=(k,v)) (r:=⟨e,sz,a⟩) (c:=c) rfl rfl rfl
  ·rw [if_neg h']
   exact zkx (by simp [h,h'])
theorem AG.go [zah] {f:FuncId} {fn:Func} {c:Code} {rs:List ResultVar} {args:List PV} {R0:Nat→Row} {post:(Nat→Row)→PV→Prop} (hT:T.Ok P) (hm:P.follows .mixedOrders = true) (hf:P.funcs[f]? = some fn) (hname:(fn.name == "runtime.NumGoroutine") = false)
 (hb:fn.body = some c) (hr:fn.results.toList = rs) (hfit:(fits fn.ntmps c && decide (args.length ≤ fn.ntmps) && decide (fn.results.toList.length ≤ 4)) = true)
 (h:zw6 args→(∀ k,zko (R0 k).kind)→∀ s:St,(∀ i,s.sl i = args.getD i .junk)→(∀ k,s.rw k = R0 k)→cwp P T c (zxq T rs post) s):AG P f args R0 post:=by
 subst hr
 refine ⟨⟨fn,hf,hname,by rw [hb];rfl⟩,fun w M E vals hw hR hv=>?_⟩
 exact (AG.of hT hm hf hname hb hfit (fun hl=>h (zve hv) hl _ (fun _=>rfl) (fun _=>rfl))).2 w M E vals hw hR hv
theorem zrC (rs:List ResultVar) (post:(Nat→Row)→PV→Prop):zxq T rs post .ret s = zvm T s rs post:=(rfl)
theorem znI (rs:List ResultVar) (post:(Nat→Row)→PV→Prop):zxq T rs post .norm s = zvm T s rs post:=(rfl)
theorem zrD (r:Nat) (post:(Nat→Row)→PV→Prop):zvm T s [.tmp r] post = post s.rw (s.sl r):=(rfl)
theorem znJ (post:(Nat→Row)→PV→Prop):zvm T s [] post = post s.rw (.tup []):=(rfl)
theorem znK (a:Nat) (t:TypeId) (post:(Nat→Row)→PV→Prop):zvm T s [.cell a t] post = zoD s.rw (s.sl a) (kk fun m c off=>ldK T t m c off (kk fun p=>post s.rw p)):=(rfl)
theorem zrE (r r2:Nat) (post:(Nat→Row)→PV→Prop):zvm T s [.tmp r,.tmp r2] post = post s.rw (.tup [s.sl r,s.sl r2]):=(rfl)
theorem zaq {n:Int} (h:-9223372036854775808 ≤ n) (h2:n ≤ 9223372036854775807):IntKind.i64.wrap n = n:=by
 simp [IntKind.wrap,IntKind.bits,IntKind.signed]
 omega
section
variable {Kp:PV→Prop}
theorem zbB [zah] (k:Nat) (p:List Nat) {t:TypeId} (o:Nat) (h0:(T t).k.agg = false) (h1:0 < (T t).size):ldK T t .asis (zar k p) o Kp = (o < p.length∧Kp (.own (sid k (p.getD o 0)) 1)):=by
 have:=zfV (T:=T) (Kp:=Kp) (fun j=>PV.own (sid k j) 1) 0 p (t:=t) (m:=.asis) o (fun j=>.own (sid k j) 1) (fun _=>rfl) h0 h1
 exact this
theorem zDz (k:Nat) (p:List Nat) (i j:Nat):spl (zar k p) i [.own (sid k j) 1] = zar k (p.set i j):=by
 show (zar k p).set i (.own (sid k j) 1) = _
 unfold zar;rw [List.map_set]
theorem zxp (k:Nat) (p:List Nat) (j:Nat):zar k p ++ [.own (sid k j) 1] = zar k (p ++ [j]):=by simp [zar]
theorem zfi (k v e e2:Nat) (p:List Nat) (rows:List (List PV)):(s.tabbed k v e e2 p rows).sl = s.sl:=(rfl)
theorem zd9 [zah] (k v e e2:Nat) (p:List Nat) (rows:List (List PV)):(s.tabbed k v e e2 p rows).rw k = ⟨v,.tab e (zar k p)⟩:=zfq
theorem zfj [zah] (k v e e2:Nat) (p:List Nat) (rows:List (List PV)) (j:Nat) (h:(j % 1000 == k % 1000) = false):(s.tabbed k v e e2 p rows).rw j = s.rw j:=by
 have h:=beq_eq_false_iff_ne.1 h
 refine zf2 (fun e=>h (by rw [e])) fun x _ e=>h ?_
 rw [e,zaT];omega
theorem znL (k v:Nat) (dst:Option Nat):TR.self.next s k v dst K = K (s.put dst (.own k v)):=(rfl)
theorem zkm (k v:Nat) (dst:Option Nat) (x:Value):(TR.selfx x).next s k v dst K = K (s.put dst (.tup [.own k v,.v x])):=(rfl)
theorem zvi (k v d:Nat) (r:RV):(TR.rv r).next s k v (some d) K = (d % 1000 ≠ k % 1000∧K (zam s d r)):=(rfl)
theorem znM (k v:Nat) (r:RV):(TR.rv r).next s k v none K = K s:=(rfl)
theorem zhl (args:List PV) (e e2:Nat) (rows:List (List PV)) (i:Nat):(St.initT args e e2 rows).sl i = args.getD i .junk:=(rfl)
theorem zhm (args:List PV) (e e2:Nat) (rows:List (List PV)) (i:Nat):(St.initT args e e2 rows).rw i = inT e e2 rows i:=(rfl)
theorem zlb [zah] (e e2:Nat) (rows:List (List PV)) (k:Nat) (h:k < 1000000):inT e e2 rows k = ⟨0,.dead⟩:=zvH h
theorem zdo [zah] (e e2:Nat) (rows:List (List PV)):inT e e2 rows 1000000 = ⟨1,.tab e (zar 1000000 (List.range rows.length))⟩:=zbD
theorem zrF (rs:List ResultVar) (e e2 n:Nat) (rows:List (List PV)) (res:TR):zDQ T rs e e2 n rows res .ret s = zzk T s rs e e2 n rows res:=(rfl)
theorem znN (rs:List ResultVar) (e e2 n:Nat) (rows:List (List PV)) (res:TR):zDQ T rs e e2 n rows res .norm s = zzk T s rs e e2 n rows res:=(rfl)
def zvj (rw:Nat→Row) (e e2 n:Nat) (rows:List (List PV)):Prop:=∃ q:List Nat,TabIs rw lent 1 e e2 q rows∧q.Perm (List.range n)
theorem znO (r e e2 n:Nat) (rows:List (List PV)):zzk T s [.tmp r] e e2 n rows .self = (zvj s.rw e e2 n rows∧s.sl r = .own 1000000 1):=(rfl)
theorem zkn (r r2 e e2 n:Nat) (rows:List (List PV)) (x:Value):zzk T s [.tmp r,.tmp r2] e e2 n rows (.selfx x) = (zvj s.rw e e2 n rows∧s.sl r = .own 1000000 1∧s.sl r2 = .v x):=(rfl)
theorem zvk (rs:List ResultVar) (e e2 n:Nat) (rows:List (List PV)) (r:RV):zzk T s rs e e2 n rows (.rv r) = (zvj s.rw e e2 n rows∧zsq T s rs r):=(rfl)
theorem zoQ [zah] {rw:Nat→Row} {k v e e2:Nat} {p:List Nat} {rows:List (List PV)} (h:TabIs rw k v e e2 p rows):(zar k p).map (zes rw) = rows.map fun r=>.sl false 1 r:=by
 refine List.ext_getElem (by simp [zal,h.len]) fun i a b=>?_
 have hi:i < p.length:=by simpa [zal] using a
 have hi':i < rows.length:=by simpa using b
 have h1:(zar k p)[i]'(by rw [zal];exact hi) = .own (sid k (p.getD i 0)) 1:=by simp [zar,List.getD,hi]
 have h2:rows.getD i [] = rows[i]:=by simp [List.getD,hi']
 rw [List.getElem_map,List.getElem_map,h1]
 simp only [zes,h.row i hi,if_true,h2]
theorem zfk [zah] (d e e2:Nat) (rows:List (List PV)):(zam s d (.tb e e2 rows)).sl d = .own d ((s.rw d).ver + 1):=by
 unfold zam
 rw [zax]
 rfl
theorem zcE [zah] (d e e2 t:Nat) (rows:List (List PV)) (h:t ≠ d):(zam s d (.tb e e2 rows)).sl t = s.sl t:=by
 unfold zam
 rw [zaO _ _ _ _ h]
theorem zdQ [zah] (d e e2 j:Nat) (rows:List (List PV)) (h:(j % 1000 == d % 1000) = false):(zam s d (.tb e e2 rows)).rw j = s.rw j:=by
 have h:=beq_eq_false_iff_ne.1 h
 unfold zam
 rw [zcD]
 show zau s.rw d (leaves (.tb e e2 rows)) 0 j = s.rw j
 rw [zcB]
 refine zbW _ _ _ _ _ fun i _ e=>h ?_
 rw [e];unfold zan;omega
theorem znP [zah] (d e e2:Nat) (rows:List (List PV)) {i:Nat} (h:i < rows.length):(zam s d (.tb e e2 rows)).rw (sid d i) = ⟨(s.rw (sid d i)).ver + 1,.sli e2 1 false (rows.getD i [])⟩:=by
 have hrw:(zam s d (.tb e e2 rows)).rw = zgH s.rw d (zbe s.rw d (leaves (.tb e e2 rows)) 0) 0:=by
  unfold zam;rw [zcD];exact zcB _ _ _ _
 have hl:(leaves (.tb e e2 rows)).length = rows.length + 1:=by rw [leaves];simp
 have h1:i + 1 < (zbe s.rw d (leaves (.tb e e2 rows)) 0).length:=by rw [zaV,hl];omega
 have h2:i + 1 < (leaves (.tb e e2 rows)).length:=by rw [hl];omega
 have:=zc4 s.rw d (zbe s.rw d (leaves (.tb e e2 rows)) 0) 0 (i + 1) h1
 rw [Nat.zero_add] at this
 rw [hrw]
 show zgH s.rw d _ 0 (zan d (i + 1)) = _
 rw [this,zdf _ _ _ _ _ h2,Nat.zero_add]
 have h3:(leaves (.tb e e2 rows))[i + 1] = (e2,some 1,rows[i]):=by simp [leaves]
 rw [h3]
 simp [zbn,sid,List.getD,h]
theorem zda [zah] (d e e2:Nat) (rows:List (List PV)):(zam s d (.tb e e2 rows)).rw d = ⟨(s.rw d).ver + 1,.tab e (zaM s.rw d 0 rows.length)⟩:=by
 have hrw:(zam s d (.tb e e2 rows)).rw = zgH s.rw d (zbe s.rw d (leaves (.tb e e2 rows)) 0) 0:=by
  unfold zam;rw [zcD];exact zcB _ _ _ _
 have hl:(leaves (.tb e e2 rows)).length = rows.length + 1:=by rw [leaves];simp
 have h1:0 < (zbe s.rw d (leaves (.tb e e2 rows)) 0).length:=by rw [zaV,hl];omega
 have h2:0 < (leaves (.tb e e2 rows)).length:=by rw [hl];omega
 have:=zc4 s.rw d (zbe s.rw d (leaves (.tb e e2 rows)) 0) 0 0 h1
 rw [Nat.zero_add] at this
 rw [hrw]
 have hd:zan d 0 = d:=by unfold zan;omega
 have e1:zgH s.rw d (zbe s.rw d (leaves (.tb e e2 rows)) 0) 0 d = zgH s.rw d (zbe s.rw d (leaves (.tb e e2 rows)) 0) 0 (zan d 0):=by rw [hd]
 rw [e1,this,zdf _ _ _ _ _ h2]
 have h3:(leaves (.tb e e2 rows))[0] = (e,none,List.replicate rows.length .junk):=by simp [leaves]
 rw [h3]
 simp [zbn,hd]
theorem zis [zah] (d j:Nat):zan d (0 + 1 + j) = sid d j:=by rw [zaT];unfold zan;omega
theorem znQ [zah] (d e e2:Nat) (rows:List (List PV)) (h:∀ i,i < rows.length→(s.rw (sid d i)).ver = 0):TabIs (zam s d (.tb e e2 rows)).rw d ((s.rw d).ver + 1) e e2 (List.range rows.length) rows:=by
 refine ⟨?_,by simp,fun i hi=>?_⟩
 ·rw [zda]
  congr 2
  unfold zaM zar
  refine List.map_congr_left fun j hj=>?_
  rw [zis,h j (List.mem_range.1 hj)]
 ·have hi':i < rows.length:=by simpa using hi
  have:(List.range rows.length).getD i 0 = i:=by simp [List.getD,hi']
  rw [this,znP d e e2 rows hi',h i hi']
theorem zoR [zah] (d e e2:Nat) (rows:List (List PV)):(zaM s.rw d 0 rows.length).map (zes (zam s d (.tb e e2 rows)).rw) = rows.map fun r=>.sl false 1 r:=by
 refine List.ext_getElem (by simp [zaM]) fun i a b=>?_
 have hi:i < rows.length:=by simpa using b
 have h2:rows.getD i [] = rows[i]:=by simp [List.getD,hi]
 rw [List.getElem_map,List.getElem_map]
 simp only [zaM,List.getElem_map,List.getElem_range]
 rw [zis]
 simp only [zes,znP d e e2 rows hi,if_true,h2]
end
theorem zfl (k:Nat) (p:List Nat):(s.killed k p).sl = s.sl:=(rfl)
theorem zfm [zah] (k:Nat) (p:List Nat) (j:Nat) (h:(j % 1000 == k % 1000) = false):(s.killed k p).rw j = s.rw j:=by
 have h:=beq_eq_false_iff_ne.1 h
 refine zbd fun hj=>h ?_
 rcases hj with rfl | ⟨x,_,rfl⟩
 ·rfl
 ·exact zaa _ _
theorem zit [zah] {rw0:Nat→Row} (d e e2:Nat) (rows:List (List PV)) (h:∀ i,s.rw (sid d i) = rw0 (sid d i)):(zaM rw0 d 0 rows.length).map (zes (zam s d (.tb e e2 rows)).rw) = rows.map fun r=>.sl false 1 r:=by
 have:zaM rw0 d 0 rows.length = zaM s.rw d 0 rows.length:=by
  unfold zaM
  refine List.map_congr_left fun j _=>?_
  rw [zis,h j]
 rw [this,zoR]
theorem zvl (M:List (List Int)):(M.map iL).map (fun r=>PV.sl false 1 r) = iLL M:=by
 unfold iLL
 rw [List.map_map];rfl
def zoS [zah] {α:Type} (I:α→St→Prop) (μ:α→Nat) (m:Nat) (s2:St):Prop:=∃ x' s3,Wk s2 s3∧I x' s3∧μ x' < m
theorem zai [zah] {α:Type} {I:α→St→Prop} {μ:α→Nat} {m:Nat} (x':α) (h:I x' s) (hm:μ x' < m):zoS I μ m s:=⟨x',s,Wk.refl s,h,hm⟩
theorem zas [zah] {α:Type} (I:α→St→Prop) (μ:α→Nat) (x0:α) {b:(AX→St→Prop)→St→Prop} {u:Dm b} {v:Dm Q} (h0:I x0 s) (h:∀ x s1,I x s1→b (AX.seq (zoS I μ (μ x)) Q) s1):zvo (kk b u) (kk Q v) s :=
 ⟨α,I,μ,⟨x0,s,Wk.refl s,h0⟩,h⟩
end
end Go.Abs
