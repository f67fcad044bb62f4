/- DERIVED by an AI agent. Rules by which simp carries a text out, head first. No program in sight. -/
import Derived.Test.YtpnknaaehcljoaaA10
namespace Go.Abs
set_option linter.unusedSimpArgs false
set_option linter.unusedVariables false
def iL (xs:List Int):List PV:=xs.map fun n=>.v (.int .i64 n)
def kL (k:IntKind) (xs:List Int):List PV:=xs.map fun n=>.v (.int k n)
def sL (xs:List ByteArray):List PV:=xs.map fun n=>.v (.string n)
def bL (xs:List Bool):List PV:=xs.map fun n=>.v (.bool n)
def iLL (xss:List (List Int)):List PV:=xss.map fun r=>.sl false 1 (iL r)
abbrev zbv (xs:List Int):PV:=.sl false 1 (iL xs)
abbrev zIc (xs:List ByteArray):PV:=.sl false 1 (sL xs)
abbrev zzL (xss:List (List Int)):PV:=.sl false 1 (iLL xss)
abbrev int (n:Int):PV:=.v (.int .i64 n)
abbrev u64 (n:Int):PV:=.v (.int .u64 n)
abbrev bool (b:Bool):PV:=.v (.bool b)
abbrev str (s:ByteArray):PV:=.v (.string s)
theorem ziT (xs:List Int):(iL xs).length = xs.length:=by simp [iL]
theorem znZ (k:IntKind) (xs:List Int):(kL k xs).length = xs.length:=by simp [kL]
theorem zb8 (xs:List ByteArray):(sL xs).length = xs.length:=by simp [sL]
theorem zn0 (xs:List Bool):(bL xs).length = xs.length:=by simp [bL]
theorem zg2 (xs:List (List Int)):(iLL xs).length = xs.length:=by simp [iLL]
theorem zn1 (xs ys:List Int):iL xs ++ iL ys = iL (xs ++ ys):=by simp [iL]
theorem zv9 (xs:List Int) (n:Int):iL xs ++ [.v (.int .i64 n)] = iL (xs ++ [n]):=by simp [iL]
theorem zn2 (k:IntKind) (xs ys:List Int):kL k xs ++ kL k ys = kL k (xs ++ ys):=by simp [kL]
theorem zwa (k:IntKind) (xs:List Int) (n:Int):kL k xs ++ [.v (.int k n)] = kL k (xs ++ [n]):=by simp [kL]
theorem zmC (xs:List ByteArray) (n:ByteArray):sL xs ++ [.v (.string n)] = sL (xs ++ [n]):=by simp [sL]
theorem zn3 (xs ys:List ByteArray):sL xs ++ sL ys = sL (xs ++ ys):=by simp [sL]
theorem zmD (xs:List (List Int)) (r:List Int):iLL xs ++ [.sl false 1 (iL r)] = iLL (xs ++ [r]):=by simp [iLL]
theorem zk8 (xs ys:List (List Int)):iLL xs ++ iLL ys = iLL (xs ++ ys):=by simp [iLL]
theorem zwb (xs:List Int) (n:Nat):(iL xs).take n = iL (xs.take n):=by simp [iL]
theorem zwc (xs:List Int) (n:Nat):(iL xs).drop n = iL (xs.drop n):=by simp [iL]
theorem zwd (xs:List ByteArray) (n:Nat):(sL xs).take n = sL (xs.take n):=by simp [sL]
theorem zwe (xs:List ByteArray) (n:Nat):(sL xs).drop n = sL (xs.drop n):=by simp [sL]
theorem zr3 (xs:List (List Int)) (n:Nat):(iLL xs).take n = iLL (xs.take n):=by simp [iLL]
theorem zr4 (xs:List (List Int)) (n:Nat):(iLL xs).drop n = iLL (xs.drop n):=by simp [iLL]
theorem zA6 (xs:List Int) (i:Nat) (n:Int):spl (iL xs) i [.v (.int .i64 n)] = iL (xs.set i n):=by simp [spl,iL]
theorem zA7 (a p:PV) (c:List PV):spl (a :: c) 0 [p] = p :: c:=by simp [spl]
theorem zA8 (a b p:PV) (c:List PV):spl (a :: b :: c) 1 [p] = a :: p :: c:=by simp [spl]
theorem zA9 (a b d p:PV) (c:List PV):spl (a :: b :: d :: c) 2 [p] = a :: b :: p :: c:=by simp [spl]
theorem zBa (a b d e p:PV) (c:List PV):spl (a :: b :: d :: e :: c) 3 [p] = a :: b :: d :: p :: c:=by simp [spl]
theorem zBb (a b p q:PV):spl [a,b] 0 [p,q] = [p,q]:=by simp [spl]
theorem zBc (a b c d p q:PV):spl [a,b,c,d] 0 [p,q] = [p,q,c,d]:=by simp [spl]
theorem zwf (a b c d p q:PV):spl [a,b,c,d] 2 [p,q] = [a,b,p,q]:=by simp [spl]
theorem zBd (a b c d p q r s:PV):spl [a,b,c,d] 0 [p,q,r,s] = [p,q,r,s]:=by simp [spl]
theorem zBe (xs:List Bool) (i:Nat) (n:Bool):spl (bL xs) i [.v (.bool n)] = bL (xs.set i n):=by simp [spl,bL]
theorem zwg (xs:List (List Int)) (i:Nat) (r:List Int):spl (iLL xs) i [.sl false 1 (iL r)] = iLL (xs.set i r):=by simp [spl,iLL]
theorem zdy (n:Nat) (x:Int):List.replicate n (PV.v (.int .i64 x)) = iL (List.replicate n x):=by simp [iL]
theorem zev (n:Nat) (x:Bool):List.replicate n (PV.v (.bool x)) = bL (List.replicate n x):=by simp [bL]
theorem zwh (xs:List Int):(∀ p ∈ iL xs,isV p = true) = True:=by simp [iL,isV,Value.oneCell']
theorem zEG (k:IntKind) (xs:List Int):(∀ p ∈ kL k xs,isV p = true) = True:=by simp [kL,isV,Value.oneCell']
theorem zBf (xs:List ByteArray):(∀ p ∈ sL xs,isV p = true) = True:=by simp [sL,isV,Value.oneCell']
theorem zzV (xs:List (List Int)):(∀ p ∈ iLL xs,zqN p = true) = True:=by simp [iLL,zqN]
theorem zwi (k:IntKind) (n:Int):(Value.int k n).oneCell' = true:=(rfl)
theorem zr5 (b:Bool):(Value.bool b).oneCell' = true:=(rfl)
theorem zk9 (b:ByteArray):(Value.string b).oneCell' = true:=(rfl)
theorem zn4 (a:Option Addr) (l c:Nat):(Value.slice a l c).oneCell' = true:=(rfl)
theorem zih (s:St) (p:PV):s.put none p = s:=(rfl)
theorem zfp (s:St) (d:Option Nat) (p:PV):(s.put d p).rw = s.rw:=by cases d <;> rfl
theorem zr6 (s:St) (k:Nat) (r:Row):(s.row k r).sl = s.sl:=(rfl)
theorem zaI (s:St) (k:Nat) (r:Row):(s.row k r).rw k = r:=by simp [St.row]
theorem zas (s:St) (k j:Nat) (r:Row) (h:j ≠ k):(s.row k r).rw j = s.rw j:=by simp [St.row,h]
theorem zf8 (s:St) (ks:List Nat):(s.freeze ks).sl = s.sl:=(rfl)
theorem zf9 (s:St) (ks:List Nat) (k:Nat):(s.freeze ks).rw k = if k ∈ ks then frz (s.rw k) else s.rw k:=(rfl)
theorem zmE (ver:Nat) (e sz:Nat) (fz:Bool) (c:List PV):frz ⟨ver,.sli e sz fz c⟩ = ⟨ver,.sli e sz true c⟩:=(rfl)
theorem zr7 (s:St) (t:Nat):s.ev (.tmp t) = s.sl t:=(rfl)
theorem zwj (s:St) (f:FuncId):s.ev (.func f) = .clo f []:=(rfl)
theorem zr8 (s:St) (k:IntKind) (n:Int):s.ev (.const (.int k n)) = .v (.int k n):=(rfl)
theorem zmF (s:St) (b:Bool):s.ev (.const (.bool b)) = .v (.bool b):=(rfl)
theorem zga (s:St) (b:ByteArray):s.ev (.const (.string b)) = .v (.string b):=(rfl)
theorem zr9 (s:St) (a:Option Addr) (l c:Nat):s.ev (.const (.slice a l c)) = .v (.slice a l c):=(rfl)
theorem zBg (s:St) (cs:List Value):s.ev (.const (.agg ⟨cs⟩)) = .ag (cs.map PV.v):=(rfl)
theorem zmG (args:List PV) (i:Nat):(St.init args).sl i = args.getD i .junk:=(rfl)
theorem zmH (args:List PV) (i:Nat):(St.init args).rw i = ⟨0,.dead⟩:=(rfl)
theorem zgb {α:Type} (a:α) (l:List α) (d:α):(a :: l).getD 0 d = a:=(rfl)
theorem zgc {α:Type} (a:α) (l:List α) (i:Nat) (d:α):(a :: l).getD (i + 1) d = l.getD i d:=(rfl)
theorem zii {α:Type} (i:Nat) (d:α):([]:List α).getD i d = d:=(rfl)
theorem zij (s:St) (d:Nat) (kd:RK) (p:Nat→PV):zcR s d kd p = (s.row d ⟨(s.rw d).ver + 1,kd⟩).put (some d) (p ((s.rw d).ver + 1)):=(rfl)
theorem zik (s:St) (d k:Nat) (kd:RK):zc8 s d k kd = (s.row k ⟨(s.rw k).ver + 1,kd⟩).put (some d) (.own k ((s.rw k).ver + 1)):=(rfl)
structure Dm {α:Type} (K:α):Type
def kk {α:Type} (K:α) (_:Dm K:=⟨⟩):α:=K
theorem zzW {α β:Type} (K:α→β) (u:Dm K) (x:α):kk K u x = K x:=(rfl)
def evK (p:PV) (K:PV→Prop):Prop:=K p
theorem zEH (v:Value) (K:PV→Prop):evK (.v v) K = K (.v v):=(rfl)
theorem zBh (fr:Bool) (z:Nat) (c:List PV) (K:PV→Prop):evK (.sl fr z c) K = K (.sl fr z c):=(rfl)
theorem zwk (j v:Nat) (K:PV→Prop):evK (.own j v) K = K (.own j v):=(rfl)
theorem zwl (j v o:Nat) (K:PV→Prop):evK (.ref j v o) K = K (.ref j v o):=(rfl)
theorem zsa (fr:Bool) (c:List PV) (o:Nat) (K:PV→Prop):evK (.eref fr c o) K = K (.eref fr c o):=(rfl)
theorem zBi (c:List PV) (K:PV→Prop):evK (.ag c) K = K (.ag c):=(rfl)
theorem zwm (c:List PV) (K:PV→Prop):evK (.tup c) K = K (.tup c):=(rfl)
theorem zwn (f:FuncId) (c:List PV) (K:PV→Prop):evK (.clo f c) K = K (.clo f c):=(rfl)
theorem zsb (K:PV→Prop):evK .junk K = K .junk:=(rfl)
section
variable {P:Program} {T:Tab} {ops:Array Oper} {Q:AX→St→Prop} {s:St}
def zzX (p:PV) (A B:Prop):Prop:=match p with | .v (.bool b)=>(b = true→A)∧(b = false→B) | _=>False
def c1 (b:Bool) (A B:Prop):Prop:=(b = true→A)∧(b = false→B)
def c2 (b:Bool) (A B:Prop):Prop:=(b = true→A)∧(b = false→B)
def d1 (b:Bool) (A B:Prop):Prop:=(b = false→A)∧(b = true→B)
def d2 (b:Bool) (A B:Prop):Prop:=(b = false→A)∧(b = true→B)
theorem zEI (A B:Prop):c1 true (kk A) (kk B) = A:=by simp [c1,kk]
theorem zEJ (A B:Prop):c1 false (kk A) (kk B) = B:=by simp [c1,kk]
theorem zEK (A B:Prop):c2 true (kk A) (kk B) = A:=by simp [c2,kk]
theorem zEL (A B:Prop):c2 false (kk A) (kk B) = B:=by simp [c2,kk]
theorem zEM (A B:Prop):d1 true (kk A) (kk B) = B:=by simp [d1,kk]
theorem zEN (A B:Prop):d1 false (kk A) (kk B) = A:=by simp [d1,kk]
theorem zEO (A B:Prop):d2 true (kk A) (kk B) = B:=by simp [d2,kk]
theorem zEP (A B:Prop):d2 false (kk A) (kk B) = A:=by simp [d2,kk]
theorem zBj (b:Bool) (A B:Prop):c1 b A B = c2 b A B:=(rfl)
theorem zBk (b:Bool) (A B:Prop):c2 b (kk A) (kk B) = ((b = true→A)∧(b = false→B)):=(rfl)
theorem zBl (b:Bool) (A B:Prop):d1 b A B = d2 b A B:=(rfl)
theorem zBm (b:Bool) (A B:Prop):d2 b (kk A) (kk B) = ((b = false→A)∧(b = true→B)):=(rfl)
theorem zla (b:Bool) (A B:Prop):zzX (.v (.bool b)) A B = c1 b A B:=(rfl)
theorem zsc [zai]:cwp P T .skip Q s = Q .norm s:=(rfl)
theorem zhu [zai] (id:Nat):cwp P T (.region id ops false) Q s = zq7 P T ops ops.toList s (Q .norm):=(rfl)
theorem zhv [zai] (id:Nat):cwp P T (.region id ops true) Q s = (zjN ops = true∧zeC P T ops [] ops.toList s (Q .norm)):=(rfl)
theorem zwo [zai] (x y:Code):cwp P T (.seq x y) Q s = cwp P T x (AX.seq (cwp P T y Q) Q) s:=(rfl)
theorem zsd [zai] (c:Operand) (x y:Code):cwp P T (.cond c x y) Q s = zzX (s.ev c) (kk (cwp P T x Q s)) (kk (cwp P T y Q s)):=(rfl)
theorem zn5 [zai] (id:Nat) (x:Code):cwp P T (.block id x) Q s = cwp P T x (AX.blk id Q) s:=(rfl)
theorem zse [zai] (x:Code):cwp P T (.loop x) Q s = zpL (kk (cwp P T x)) (kk Q) s:=(rfl)
theorem zsf [zai] (id:Nat):cwp P T (.exit id) Q s = Q (.exit id) s:=(rfl)
theorem zwp [zai]:cwp P T .ret Q s = Q .ret s:=(rfl)
theorem zn6 [zai] (l:Nat):cwp P T (.label l) Q s = Q .norm s:=(rfl)
variable {K:St→Prop}
theorem zsg:AX.seq K Q .norm s = K s:=(rfl)
theorem zwq:AX.seq K Q .ret s = Q .ret s:=(rfl)
theorem zsh (id:Nat):AX.seq K Q (.exit id) s = Q (.exit id) s:=(rfl)
theorem zsi (id:Nat):AX.blk id Q .norm s = Q .norm s:=(rfl)
theorem zwr (id:Nat):AX.blk id Q .ret s = Q .ret s:=(rfl)
theorem zgd (id:Nat):AX.blk id Q (.exit id) s = Q .norm s:=by simp [AX.blk]
theorem ziU (id i:Nat) (h:i ≠ id):AX.blk id Q (.exit i) s = Q (.exit i) s:=by simp [AX.blk,h]
theorem zsj (rs:List ResultVar) (rv:RV):zFW T rs rv .ret s = zuS T s rs rv:=(rfl)
theorem zn7 (rs:List ResultVar) (rv:RV):zFW T rs rv .norm s = zuS T s rs rv:=(rfl)
theorem zsk [zai]:zq7 P T ops [] s K = K s:=(rfl)
theorem ziV:∀ (n:Nat) (p:Nat→Bool),(∀ k,k < n→p k = true)→zcK n p = true:=by
 intro n
 induction n with
 | zero=>intro p _;rfl
 | succ n ih=>intro p h;simp only [zcK,Bool.and_eq_true];exact ⟨h n (by omega),ih p fun k hk=>h k (by omega)⟩
def clr (e:Ent):List Ent→Bool | []=>true | e' :: l=>!zl9 e' e && clr e l
def zge:List Ent→Bool | []=>true | e :: l=>clr e l && zge l
theorem zqV:∀ {l:List Ent},zge l = true→l.Pairwise fun a b=>zl9 b a = false:=by
 intro l
 induction l with
 | nil=>intro _;exact .nil
 | cons e l ih =>
   intro h
   simp only [zge,Bool.and_eq_true] at h
   refine List.pairwise_cons.2 ⟨?_,ih h.2⟩
   have:∀ l':List Ent,clr e l' = true→∀ b ∈ l',zl9 b e = false:=by
    intro l'
    induction l' with
    | nil=>intro _ b hb;cases hb
    | cons x l' ih' =>
      intro h b hb
      simp only [clr,Bool.and_eq_true,Bool.not_eq_true'] at h
      rcases List.mem_cons.1 hb with rfl | hb
      ·exact h.1
      ·exact ih' h.2 b hb
   exact this l h.1
theorem zuL [zai] {l:List Ent} (h:zge l = true):zkP ops l.reverse = true:=by
 have hp:l.reverse.Pairwise fun a b=>zl9 a b = false:=List.pairwise_reverse.2 (zqV h)
 unfold zkP
 refine ziV _ _ fun j hj=>ziV _ _ fun i hi=>?_
 split
 ·rename_i a b ha hb
  obtain ⟨h1,rfl⟩:=List.getElem?_eq_some_iff.1 ha
  obtain ⟨h2,rfl⟩:=List.getElem?_eq_some_iff.1 hb
  have:=List.pairwise_iff_getElem.1 hp i j h1 h2 hi
  rw [this];rfl
 ·rfl
def zws (ops:Array Oper) (acc:List Ent) (A:Prop):Prop:=zkP ops acc.reverse = true∧A
def lnK (b:Bool) (ops:Array Oper) (acc:List Ent) (A:Prop):Prop:=match b with | true=>A | false=>zkP ops acc.reverse = true∧A
theorem zn8 [zai] (acc:List Ent) (A:Prop):zws ops acc (kk A) = lnK (zge acc) ops acc (kk A):=by
 unfold zws lnK
 cases h:zge acc with
 | true=>simp [zuL h,kk]
 | false=>rfl
theorem zEQ (acc:List Ent) (A:Prop):lnK true ops acc (kk A) = A:=(rfl)
theorem zER (acc:List Ent) (A:Prop):lnK false ops acc (kk A) = (zkP ops acc.reverse = true∧A):=(rfl)
theorem zBn:zge [] = true:=(rfl)
theorem zwt (e:Ent) (l:List Ent):zge (e :: l) = (clr e l && zge l):=(rfl)
theorem zwu (e:Ent):clr e [] = true:=(rfl)
theorem zsl (e e':Ent) (l:List Ent):clr e (e' :: l) = (!zl9 e' e && clr e l):=(rfl)
def znK (l:List Nat) (t:Tc):Bool:=l.any t.has
theorem zsm (t:Tc):znK [] t = false:=(rfl)
theorem zn9 (k:Nat) (l:List Nat) (t:Tc):znK (k :: l) t = (t.has k || znK l t):=(rfl)
theorem zwv (k:Nat):(Tc.ids []).has k = false:=(rfl)
theorem zsn (a:Nat) (l:List Nat) (k:Nat):(Tc.ids (a :: l)).has k = (a % 1000 == k % 1000 || (Tc.ids l).has k):=(rfl)
theorem zww (d k:Nat):(Tc.res d).has k = (k % 1000 == d % 1000):=(rfl)
theorem zBo (a b:List Nat):zl9 ⟨a,.ids []⟩ ⟨b,.ids []⟩ = false:=by
 have e:∀ l:List Nat,l.any (Tc.ids []).has = false:=fun l=>by
  rw [List.any_eq_false];intro x _;simp [Tc.has]
 simp [zl9,e,zfy]
theorem zwx (a b t u:List Nat):zl9 ⟨a,.ids t⟩ ⟨b,.ids u⟩ = (znK a (.ids u) || (znK b (.ids t) || znK t (.ids u))):=by simp [zl9,znK,zfy,Bool.or_assoc]
theorem zwy (a b t:List Nat) (d:Nat):zl9 ⟨a,.ids t⟩ ⟨b,.res d⟩ = (znK a (.res d) || (znK b (.ids t) || znK t (.res d))):=by simp [zl9,znK,zfy,Bool.or_assoc]
theorem zwz (a b t:List Nat) (d:Nat):zl9 ⟨a,.res d⟩ ⟨b,.ids t⟩ = (znK a (.ids t) || (znK b (.res d) || znK t (.res d))):=by simp [zl9,znK,zfy,Bool.or_assoc]
theorem zwA (a b:List Nat) (d d':Nat):zl9 ⟨a,.res d⟩ ⟨b,.res d'⟩ = (znK a (.res d') || (znK b (.res d) || (d % 1000 == d' % 1000))):=by simp [zl9,znK,zfy,Bool.or_assoc]
theorem zoa [zai] (acc:List Ent):zeC P T ops acc [] s K = zws ops acc (kk (K s)):=(rfl)
def gK (d:Option Nat) (want:Bool) (s:St) (A B:Nat→Prop) (N:Prop):Prop :=
 match d with
 | some d=>(match s.sl d with | .v (.bool b)=>(b = want→A d)∧(b = !want→B d) | .v (.tuple _)=>N | _=>False)
 | none=>False
def gK1 (want:Bool) (p:PV) (A B N:Prop):Prop:=match p with | .v (.bool b)=>(b = want→A)∧(b = !want→B) | .v (.tuple _)=>N | _=>False
theorem zwB (d:Nat) (want:Bool) (A B:Nat→Prop) (N:Prop):gK (some d) want s A B N = gK1 want (s.sl d) (kk (A d)) (kk (B d)) N:=(rfl)
theorem zob (want:Bool) (A B N:Prop):gK1 want (.v undef) A B (kk N) = N:=(rfl)
theorem zso (b:Bool) (A B N:Prop):gK1 true (.v (.bool b)) A B N = c1 b A B:=(rfl)
theorem zoc (b:Bool) (A B N:Prop):gK1 false (.v (.bool b)) A B N = d1 b A B:=(rfl)
theorem zod [zai] {dst:Option Nat} {op:Op} {ty:TypeId} {pos:String} {af:Array Edge} {os:List Oper} :
 zq7 P T ops (⟨dst,op,ty,pos,af,none⟩ :: os) s K = zd1 P T s ⟨dst,op,ty,pos,af,none⟩ (fun s2=>zq7 P T ops os s2 K):=(rfl)
theorem zlb [zai] {dst:Option Nat} {op:Op} {ty:TypeId} {pos:String} {af:Array Edge} {j:Nat} {want:Bool} {os:List Oper} :
 zq7 P T ops (⟨dst,op,ty,pos,af,some (j,want)⟩ :: os) s K = gK ((ops[j]?).bind (·.dst)) want s
  (kk fun d=>zd1 P T (s.put (some d) (.v (.bool want))) ⟨dst,op,ty,pos,af,some (j,want)⟩ (fun s2=>zq7 P T ops os s2 K))
  (kk fun d=>zq7 P T ops os ((s.put (some d) (.v (.bool !want))).put dst (.v undef)) K) (kk (zq7 P T ops os (s.put dst (.v undef)) K)):=(rfl)
theorem zBp (l:List Oper) (j:Nat):((⟨l⟩:Array Oper)[j]?) = l[j]?:=by simp
theorem getElem?_zero {α:Type} (a:α) (l:List α):(a :: l)[0]? = some a:=(rfl)
theorem getElem?_succ {α:Type} (a:α) (l:List α) (i:Nat):(a :: l)[i + 1]? = l[i]?:=(rfl)
theorem zoe (o:Oper):(some o).bind (·.dst) = o.dst:=(rfl)
theorem zlc [zai] {dst:Option Nat} {op:Op} {ty:TypeId} {pos:String} {af:Array Edge} {os:List Oper} (acc:List Ent) :
 zeC P T ops acc (⟨dst,op,ty,pos,af,none⟩ :: os) s K = dK P T s ⟨dst,op,ty,pos,af,none⟩ (kk fun e s2=>zeC P T ops (e :: acc) os s2 K):=(rfl)
theorem ziW [zai] {dst:Option Nat} {op:Op} {ty:TypeId} {pos:String} {af:Array Edge} {j:Nat} {want:Bool} {os:List Oper} (acc:List Ent) :
 zeC P T ops acc (⟨dst,op,ty,pos,af,some (j,want)⟩ :: os) s K = gK ((ops[j]?).bind (·.dst)) want s
  (kk fun d=>dK P T (s.put (some d) (.v (.bool want))) ⟨dst,op,ty,pos,af,some (j,want)⟩ (kk fun e s2=>zeC P T ops (e :: acc) os s2 K))
  (kk fun d=>zeC P T ops (⟨[],.ids []⟩ :: acc) os ((s.put (some d) (.v (.bool !want))).put dst (.v undef)) K) (kk (zeC P T ops (⟨[],.ids []⟩ :: acc) os (s.put dst (.v undef)) K)):=(rfl)
def zc4 (l:List PV) (acc:List Nat) (Kn:List Nat→Prop):Prop:=Kn (acc ++ l.flatMap zd7)
def znL (l:List PV) (acc:List Nat) (Kn:List Nat→Prop):Prop:=Kn (acc ++ l.flatMap zB6)
section
variable (l:List PV) (acc:List Nat) (Kn:List Nat→Prop)
theorem zsp:zc4 [] acc (kk Kn) = Kn acc:=by simp [zc4,kk]
theorem zBq (x:Value):zc4 (.v x :: l) acc (kk Kn) = zc4 l acc (kk Kn):=(rfl)
theorem zwC (fr:Bool) (z:Nat) (c:List PV):zc4 (.sl fr z c :: l) acc (kk Kn) = zc4 l acc (kk Kn):=(rfl)
theorem zof (fr:Bool) (c:List PV) (o:Nat):zc4 (.eref fr c o :: l) acc (kk Kn) = zc4 l acc (kk Kn):=(rfl)
theorem zsq (f:FuncId) (c:List PV):zc4 (.clo f c :: l) acc (kk Kn) = zc4 l acc (kk Kn):=(rfl)
theorem zsr (c:List PV):zc4 (.tup c :: l) acc (kk Kn) = zc4 l acc (kk Kn):=(rfl)
theorem zog:zc4 (.junk :: l) acc (kk Kn) = zc4 l acc (kk Kn):=(rfl)
theorem zss (k v:Nat):zc4 (.own k v :: l) acc (kk Kn) = zc4 l (acc ++ [k % 1000]) (kk Kn):=by simp [zc4,kk,zd7,List.flatMap_cons]
theorem zst (k v o:Nat):zc4 (.ref k v o :: l) acc (kk Kn) = zc4 l (acc ++ [k % 1000]) (kk Kn):=by simp [zc4,kk,zd7,List.flatMap_cons]
theorem zwD (c:List PV):zc4 (.ag c :: l) acc (kk Kn) = znL c acc (kk fun acc'=>zc4 l acc' (kk Kn)):=by simp [zc4,znL,kk,zd7,List.flatMap_cons]
theorem zsu:znL [] acc (kk Kn) = Kn acc:=by simp [znL,kk]
theorem zBr (x:Value):znL (.v x :: l) acc (kk Kn) = znL l acc (kk Kn):=(rfl)
theorem zwE (fr:Bool) (z:Nat) (c:List PV):znL (.sl fr z c :: l) acc (kk Kn) = znL l acc (kk Kn):=(rfl)
theorem zoh (fr:Bool) (c:List PV) (o:Nat):znL (.eref fr c o :: l) acc (kk Kn) = znL l acc (kk Kn):=(rfl)
theorem zsv (f:FuncId) (c:List PV):znL (.clo f c :: l) acc (kk Kn) = znL l acc (kk Kn):=(rfl)
theorem zsw (k v:Nat):znL (.own k v :: l) acc (kk Kn) = znL l (acc ++ [k % 1000]) (kk Kn):=by simp [znL,kk,zB6,List.flatMap_cons]
theorem zsx (k v o:Nat):znL (.ref k v o :: l) acc (kk Kn) = znL l (acc ++ [k % 1000]) (kk Kn):=by simp [znL,kk,zB6,List.flatMap_cons]
end
def zeo (rw:Nat→Row) (n:Nat) (l:List PV) (acc:List Nat) (Kn:List Nat→Prop):Prop:=Kn (acc ++ l.flatMap (zdW rw n))
def ziX (r:Row) (rw:Nat→Row) (n:Nat) (acc:List Nat) (Kn:List Nat→Prop):Prop:=Kn (acc ++ (match r.kind with | .box _ c=>c.flatMap (zdW rw n) | _=>[]))
def ziY (r:Row) (k:Nat) (acc:List Nat) (Kn:List Nat→Prop):Prop:=Kn (acc ++ (match r.kind with | .tab _ c=>zq1 k c | _=>[]))
section
variable (rw:Nat→Row) (n:Nat) (l:List PV) (acc:List Nat) (Kn:List Nat→Prop)
theorem zsy:zeo rw n [] acc (kk Kn) = Kn acc:=by simp [zeo,kk]
theorem zoi:zeo rw 0 l acc (kk Kn) = Kn acc:=by
 have:l.flatMap (zdW rw 0) = []:=by simp [zdW]
 unfold zeo kk
 rw [this,List.append_nil]
theorem zBs (x:Value):zeo rw (n + 1) (.v x :: l) acc (kk Kn) = zeo rw (n + 1) l acc (kk Kn):=by simp [zeo,zdW,List.flatMap_cons]
theorem zwF (fr:Bool) (z:Nat) (c:List PV):zeo rw (n + 1) (.sl fr z c :: l) acc (kk Kn) = zeo rw (n + 1) l acc (kk Kn):=by simp [zeo,zdW,List.flatMap_cons]
theorem zoj (fr:Bool) (c:List PV) (o:Nat):zeo rw (n + 1) (.eref fr c o :: l) acc (kk Kn) = zeo rw (n + 1) l acc (kk Kn):=by simp [zeo,zdW,List.flatMap_cons]
theorem zok:zeo rw (n + 1) (.junk :: l) acc (kk Kn) = zeo rw (n + 1) l acc (kk Kn):=by simp [zeo,zdW,List.flatMap_cons]
theorem zsz (k v:Nat):zeo rw (n + 1) (.own k v :: l) acc (kk Kn) = ziY (rw k) k (acc ++ [k % 1000]) (kk fun acc'=>zeo rw (n + 1) l acc' (kk Kn)):=by
 simp only [zeo,ziY,kk,List.flatMap_cons]
 rw [zdW]
 cases (rw k).kind <;> simp
theorem zld (k ver e z:Nat) (fz:Bool) (c:List PV):ziY ⟨ver,.sli e z fz c⟩ k acc (kk Kn) = Kn acc:=by simp [ziY,kk]
theorem zle (k ver:Nat):ziY ⟨ver,.nil⟩ k acc (kk Kn) = Kn acc:=by simp [ziY,kk]
theorem zlf (k ver e:Nat) (c:List PV):ziY ⟨ver,.tab e c⟩ k acc (kk Kn) = Kn (acc ++ zq1 k c):=(rfl)
theorem ziZ [zai] (k:Nat) (p:List Nat):zq1 k (zaA k p) = []:=by
 unfold zq1 zaA
 rw [List.flatMap_eq_nil_iff]
 intro q hq
 obtain ⟨j,_,rfl⟩:=List.mem_map.1 hq
 simp [zaa]
theorem zol (rw':Nat→Row) (k m:Nat):zq1 k (zaO rw' k 0 m) = []:=by
 unfold zq1 zaO
 rw [List.flatMap_eq_nil_iff]
 intro q hq
 obtain ⟨j,_,rfl⟩:=List.mem_map.1 hq
 simp [zal]
theorem zwG (c:List PV):zeo rw (n + 1) (.ag c :: l) acc (kk Kn) = zeo rw n c acc (kk fun acc'=>zeo rw (n + 1) l acc' (kk Kn)):=by simp [zeo,zdW,List.flatMap_cons,kk]
theorem zsA (f:FuncId) (c:List PV):zeo rw (n + 1) (.clo f c :: l) acc (kk Kn) = zeo rw n c acc (kk fun acc'=>zeo rw (n + 1) l acc' (kk Kn)):=by simp [zeo,zdW,List.flatMap_cons,kk]
theorem zsB (k v o:Nat):zeo rw (n + 1) (.ref k v o :: l) acc (kk Kn) = ziX (rw k) rw n (acc ++ [k % 1000]) (kk fun acc'=>zeo rw (n + 1) l acc' (kk Kn)):=by
 simp only [zeo,ziX,kk,List.flatMap_cons]
 rw [zdW]
 cases (rw k).kind <;> simp
theorem zlg (ver:Nat) (t:TypeId) (c:List PV):ziX ⟨ver,.box t c⟩ rw n acc (kk Kn) = zeo rw n c acc (kk Kn):=(rfl)
theorem zlh (ver e z:Nat) (fz:Bool) (c:List PV):ziX ⟨ver,.sli e z fz c⟩ rw n acc (kk Kn) = Kn acc:=by simp [ziX,kk]
theorem zli (ver:Nat):ziX ⟨ver,.nil⟩ rw n acc (kk Kn) = Kn acc:=by simp [ziX,kk]
end
section
variable {dst:Option Nat} {ty:TypeId} {pos:String} {af:Array Edge} {g:Option (Nat × Bool)}
theorem zsC [zai] (x:Operand):opK P T s ⟨dst,.move x,ty,pos,af,g⟩ K = evK (s.ev x) (kk fun p=>K (s.put dst p)):=(rfl)
theorem zfq [zai] (t:Nat):opK P T s ⟨dst,.assign (.tmp t),ty,pos,af,g⟩ K = evK (s.sl t) (kk fun p=>K (s.put dst p)):=(rfl)
theorem zfr [zai] (k:IntKind) (n:Int):opK P T s ⟨dst,.assign (.const (.int k n)),ty,pos,af,g⟩ K = K (s.put dst (.v (.int k n))):=(rfl)
theorem zew [zai] (b:Bool):opK P T s ⟨dst,.assign (.const (.bool b)),ty,pos,af,g⟩ K = K (s.put dst (.v (.bool b))):=(rfl)
theorem zdS [zai] (b:ByteArray):opK P T s ⟨dst,.assign (.const (.string b)),ty,pos,af,g⟩ K = K (s.put dst (.v (.string b))):=(rfl)
theorem zfs [zai] (cs:List Value):opK P T s ⟨dst,.assign (.const (.agg ⟨cs⟩)),ty,pos,af,g⟩ K = K (s.put dst (.ag (cs.map PV.v))):=(rfl)
def zBt (T:Tab) (k:TK):RK:=match k with | .sli e=>.sli e (T e).size false [] | _=>.nil
theorem zlj (e:TypeId):zBt T (.sli e) = .sli e (T e).size false []:=(rfl)
theorem zft [zai] (d:Nat):opK P T s ⟨some d,.assign (.const (.slice none 0 0)),ty,pos,af,g⟩ K = K (zcR s d (zBt T (T ty).k) fun v=>.own d v):=(rfl)
theorem zsD [zai] (c x y:Operand):opK P T s ⟨dst,.pick c x y,ty,pos,af,g⟩ K = zzX (s.ev c) (kk (evK (s.ev x) (kk fun p=>K (s.put dst p)))) (kk (evK (s.ev y) (kk fun p=>K (s.put dst p)))):=(rfl)
theorem zwH [zai] (op:BinOp) (t t2:TypeId) (x y:Operand):opK P T s ⟨dst,.binOp op t x y t2,ty,pos,af,g⟩ K = zcX T op t (s.ev x) (s.ev y) (kk fun p=>K (s.put dst p)):=(rfl)
theorem zBu [zai] (op:UnOp) (t:TypeId) (x:Operand):opK P T s ⟨dst,.unOp op t x,ty,pos,af,g⟩ K = unK op (s.ev x) (kk fun p=>K (s.put dst p)):=(rfl)
theorem zi0 [zai] (a b:TypeId) (x:Operand):opK P T s ⟨dst,.convert a b x,ty,pos,af,g⟩ K = zfj T s.rw a b (s.ev x) (kk fun p=>K (s.put dst p)):=(rfl)
theorem zsE [zai] (t:TypeId) (x:Operand):opK P T s ⟨dst,.load t x,ty,pos,af,g⟩ K = zqO s.rw (s.ev x) (kk fun m c off=>ldK T t m c off (kk fun p=>K (s.put dst p))):=(rfl)
theorem zgf [zai] (t:TypeId) (x:Operand) (f:Nat):opK P T s ⟨dst,.fieldAddr t x f,ty,pos,af,g⟩ K =
 zdE T t f (kk fun o _=>zj2 (s.ev x) = true∧zdm s.rw (s.ev x) (kk (evK (zdY (s.ev x) o) (kk fun p=>K (s.put dst p))))):=(rfl)
def agK (p:PV) (K:List PV→Prop):Prop:=match p with | .ag c=>K c | _=>False
theorem zBv (c:List PV) (Kc:List PV→Prop):agK (.ag c) Kc = Kc c:=(rfl)
def zF7 (p:PV) (K:List PV→Prop):Prop:=match p with | .tup c=>K c | _=>False
theorem zsF (c:List PV) (Kc:List PV→Prop):zF7 (.tup c) Kc = Kc c:=(rfl)
theorem zi1 [zai] (t:TypeId) (x:Operand) (f:Nat):opK P T s ⟨dst,.field t x f,ty,pos,af,g⟩ K =
 agK (s.ev x) (kk fun c=>zdE T t f (kk fun o ft=>ldK T ft .asis c o (kk fun p=>K (s.put dst p)))):=by
 show zdE T t f (fun o ft=>(match s.ev x with | .ag c=>ldK T ft .asis c o fun p=>K (s.put dst p) | _=>False)) = _
 unfold zdE agK kk
 cases s.ev x
 case ag c=>rfl
 all_goals
  refine propext ⟨fun h=>?_,fun h=>h.elim⟩
  obtain ⟨_,h⟩:=h
  split at h
  ·split at h
   ·exact h.2.elim
   ·exact h.elim
  ·exact h.elim
theorem zgg [zai] (t:TypeId) (x i:Operand):opK P T s ⟨dst,.indexAddr t x i,ty,pos,af,g⟩ K = zbo T s.rw t (s.ev x) (s.ev i) (kk fun p=>K (s.put dst p)):=(rfl)
def zsG (T:Tab) (t:TypeId) (x i:PV) (K:PV→Prop):Prop:=0 < (T t).size∧(match (T t).k,x,i with
 | .str,.v (.string s),.v (.int _ n)=>0 ≤ n∧n.toNat < s.size∧K (.v (.int .u8 ((s.data.toList.getD n.toNat 0).toNat:Int)))
 | .arr len e,.ag c,.v (.int _ n)=>0 ≤ n∧n < len∧ldK T e .asis c (n.toNat * (T e).size) K
 | _,_,_=>False)
theorem zom [zai] (t:TypeId) (x i:Operand):opK P T s ⟨dst,.index t x i,ty,pos,af,g⟩ K = zsG T t (s.ev x) (s.ev i) (kk fun p=>K (s.put dst p)):=(rfl)
theorem zi2 [zai] (x:Operand) (i:Nat):opK P T s ⟨dst,.extract x i,ty,pos,af,g⟩ K = zF7 (s.ev x) (kk fun ps=>i < ps.length∧evK (ps.getD i .junk) (kk fun p=>K (s.put dst p))):=(rfl)
theorem zhw [zai] (x:Operand):opK P T s ⟨dst,.nilCheck x,ty,pos,af,g⟩ K = zdm s.rw (s.ev x) (kk (evK (s.ev x) (kk fun p=>K (s.put dst p)))):=(rfl)
theorem zhx [zai] (f:FuncId) (caps:Array Operand):opK P T s ⟨dst,.makeFunc (.func f) #[] caps,ty,pos,af,g⟩ K = K (s.put dst (.clo f (caps.toList.map s.ev))):=by
 show (#[] = (#[]:Array Operand)∧K (s.put dst (.clo f (caps.toList.map s.ev)))) = _
 simp
theorem zwI [zai] (x:Operand) (t:TypeId):opK P T s ⟨dst,.call ⟨.builtin .len,#[x],#[t]⟩,ty,pos,af,g⟩ K = zyu T s.rw t (s.ev x) (kk fun p=>K (s.put dst p)):=(rfl)
theorem zwJ [zai] (x y:Operand) (ts:Array TypeId):opK P T s ⟨dst,.call ⟨.builtin .max,#[x,y],ts⟩,ty,pos,af,g⟩ K = zcC true (s.ev x) (s.ev y) (kk fun p=>K (s.put dst p)):=(rfl)
theorem zwK [zai] (x y:Operand) (ts:Array TypeId):opK P T s ⟨dst,.call ⟨.builtin .min,#[x,y],ts⟩,ty,pos,af,g⟩ K = zcC false (s.ev x) (s.ev y) (kk fun p=>K (s.put dst p)):=(rfl)
theorem zlk [zai] (d:Nat) (x y:Operand) (t t2:TypeId):opK P T s ⟨some d,.call ⟨.builtin .append,#[x,y],#[t,t2]⟩,ty,pos,af,g⟩ K = zjV T s d t t2 (s.ev x) (s.ev y) (kk K):=(rfl)
def zzM (p:PV) (K:FuncId→List PV→Prop):Prop:=match p with | .clo g caps=>K g caps | _=>False
theorem zsH (g:FuncId) (c:List PV) (Kc:FuncId→List PV→Prop):zzM (.clo g c) Kc = Kc g c:=(rfl)
def zh4 [zai] (P:Program) (f:FuncId) (args:List PV) (K:RV→Prop) (M:Prop):Prop:=(∃ rv,AC P f args rv∧K rv) ∨ M
theorem zaf [zai] {f:FuncId} {args:List PV} {Kr:RV→Prop} {u:Dm Kr} {rv:RV} {M:Prop} (h:AC P f args rv) (hk:Kr rv):zh4 P f args (kk Kr u) M:=.inl ⟨rv,h,hk⟩
def zuM [zai] (P:Program) (f:FuncId) (args raw:List PV) (dst:Option Nat) (s:St) (K:St→Prop):Prop:=zHT P s f raw dst K ∨ zF0 P s f raw dst K ∨ zCW P s f args dst K ∨ askG P s f raw dst K
theorem zCE [zai] {f:FuncId} {args raw lent:List PV} {k v e e2:Nat} {p:List Nat} {rows rows':List (List PV)} {res:TR} {Ka:RV→Prop} {dst:Option Nat} {us:Dm s} {u:Dm K} (h:AT P f args e e2 rows rows' res)
 (hg:GiveL [(k,v)] raw args) (ht:TabIs s.rw k v e e2 p rows) (hn:p.Nodup)
 (hk:∀ p':List Nat,p'.Perm p→res.next (s.tabbed k v e e2 p' rows') k v dst K):zh4 P f lent Ka (zuM P f lent raw dst (kk s us) (kk K u)) :=
 .inr (.inr (.inl ⟨k,v,e,e2,p,rows,rows',args,res,h,hg,ht,hn,hk⟩))
theorem zCF [zai] {f:FuncId} {args raw lent:List PV} {R0:Nat→Row} {post:(Nat→Row)→PV→Prop} {Ka:RV→Prop} {dst:Option Nat} {us:Dm s} {u:Dm K} (h:AG P f args R0 post) (rho:Nat→Option Nat) (Ln:Nat→Prop) (hl:GvL rho Ln R0 s.rw args raw) (hg:Give rho Ln R0 s.rw)
 (hk:∀ R1 p,post R1 p→∃ (rho1:Nat→Option Nat) (nv:Nat→Nat) (nl:Bool),Back rho rho1 R1 nv nl Ln R0 s.rw∧∀ S:St,After s S dst rho1 nv nl R1 p→K S):zh4 P f lent Ka (zuM P f lent raw dst (kk s us) (kk K u)) :=
 .inr (.inr (.inr (.inr ⟨args,R0,post,rho,Ln,h,hl,hg,hk⟩)))
def zg3 (s:St) (l:List Operand):List PV:=l.map fun x=>zcl s.rw zfi (s.ev x)
theorem zon:zg3 s [] = []:=(rfl)
theorem zll (x:Operand) (l:List Operand):zg3 s (x :: l) = zcl s.rw 3 (s.ev x) :: zg3 s l:=(rfl)
def zwL (s:St) (l:List Operand):List PV:=l.map s.ev
theorem zsI:zwL s [] = []:=(rfl)
theorem zoo (x:Operand) (l:List Operand):zwL s (x :: l) = s.ev x :: zwL s l:=(rfl)
theorem zzY [zai] (f:Operand) (args:List Operand) (Kr:RV→Prop):zec P s.rw s.ev f ⟨args⟩ Kr = zzM (s.ev f) (kk fun g caps=>zh4 P g (zg3 s args ++ caps.map (zcl s.rw 3)) (kk Kr) False):=by
 unfold zec zzM zh4
 cases s.ev f <;> first | rfl | simp [kk,zg3,zfi]
theorem zsJ [zai] (f:Operand) (args:List Operand) (Kr:RV→Prop) (dst:Option Nat):((zec P s.rw s.ev f ⟨args⟩ Kr ∨ zyd P s f ⟨args⟩ dst K) ∨ (match s.ev f with
 | .clo g caps=>zF0 P s g (args.map s.ev ++ caps) dst K ∨ zCW P s g ((args.map fun x=>zcl s.rw zfi (s.ev x)) ++ caps.map (zcl s.rw zfi)) dst K ∨ askG P s g (args.map s.ev ++ caps) dst K
 | _=>False)) =
 zzM (s.ev f) (kk fun g caps=>zh4 P g (zg3 s args ++ caps.map (zcl s.rw 3)) (kk Kr) (zuM P g (zg3 s args ++ caps.map (zcl s.rw 3)) (zwL s args ++ caps) dst (kk s) (kk K))):=by
 unfold zec zyd zzM
 cases s.ev f <;> first | (simp;done) | skip
 unfold kk zh4 zuM
 exact propext or_assoc
theorem zop [zai] (d:Nat) (f:Operand) (args:List Operand) (ts:Array TypeId):zd1 P T s ⟨some d,.call ⟨.value f,⟨args⟩,ts⟩,ty,pos,af,g⟩ K =
 zzM (s.ev f) (kk fun g caps=>zh4 P g (zg3 s args ++ caps.map (zcl s.rw 3)) (kk fun rv=>K (zam s d rv)) (zuM P g (zg3 s args ++ caps.map (zcl s.rw 3)) (zwL s args ++ caps) (some d) (kk s) (kk K))):=zsJ (P:=P) f args _ _
theorem zfu [zai] (f:Operand) (args:List Operand) (ts:Array TypeId):zd1 P T s ⟨none,.call ⟨.value f,⟨args⟩,ts⟩,ty,pos,af,g⟩ K =
 zzM (s.ev f) (kk fun g caps=>zh4 P g (zg3 s args ++ caps.map (zcl s.rw 3)) (kk fun _=>K s) (zuM P g (zg3 s args ++ caps.map (zcl s.rw 3)) (zwL s args ++ caps) none (kk s) (kk K))):=zsJ (P:=P) f args _ _
theorem zoq [zai] (b:Builtin) (args:Array Operand) (ts:Array TypeId) (h:(match b with | .append=>false | _=>true) = true):zd1 P T s ⟨dst,.call ⟨.builtin b,args,ts⟩,ty,pos,af,g⟩ K = opK P T s ⟨dst,.call ⟨.builtin b,args,ts⟩,ty,pos,af,g⟩ K:=by
 cases b <;> first | rfl | cases h
theorem zor [zai] (d:Nat) (t:TypeId):opK P T s ⟨some d,.alloc t,ty,pos,af,g⟩ K = (0 < (T t).size∧K (zcR s d (.box t ((T t).zero.map PV.v)) fun v=>.ref d v 0)):=(rfl)
theorem zwM [zai] (d:Nat) (t:TypeId) (x:Operand):opK P T s ⟨some d,.box t x,ty,pos,af,g⟩ K = zaU s.rw (s.ev x) (kk fun c=>K (zcR s d (.box t c) fun v=>.ref d v 0)):=(rfl)
def evs (s:St) (l:List (Nat × Operand)):List PV:=l.map fun x=>s.ev x.2
theorem zwN:evs s [] = []:=(rfl)
theorem zsK (n:Nat) (x:Operand) (l:List (Nat × Operand)):evs s ((n,x) :: l) = s.ev x :: evs s l:=(rfl)
def zwO (T:Tab) (s:St) (d:Nat) (kd:TK) (z n:Nat) (parts:List (Nat × Operand)) (K:St→Prop):Prop :=
 0 < z∧match kd with
 | .sli e=>0 < (T e).size∧n = parts.length∧zm0 0 parts = true∧n * (T e).size ≤ 16777216 ∧
  zkR s.rw (T e).size (evs s parts) fun c f=>d ∉ f∧K (((s.freeze f).row d ⟨(s.rw d).ver + 1,.sli e (T e).size false c⟩).put (some d) (.own d ((s.rw d).ver + 1)))
 | _=>False
theorem zfv [zai] (d:Nat) (t:TypeId) (n:Nat) (parts:List (Nat × Operand)):opK P T s ⟨some d,.buildSlice t n ⟨parts⟩,ty,pos,af,g⟩ K = zwO T s d (T t).k (T t).size n parts (kk K):=(rfl)
def lit (c:List PV):List PV:=c
def zES (a:List Int) (c:List PV):List PV:=iL a ++ c
def zET (a:List ByteArray) (c:List PV):List PV:=sL a ++ c
def zEU (a:List Bool) (c:List PV):List PV:=bL a ++ c
def zEV (a:List (List Int)) (c:List PV):List PV:=iLL a ++ c
theorem zmI:lit [] = []:=(rfl)
theorem zmJ (n:Int) (l:List PV):lit (.v (.int .i64 n) :: l) = zES [n] l:=(rfl)
theorem zmK (n:ByteArray) (l:List PV):lit (.v (.string n) :: l) = zET [n] l:=(rfl)
theorem zil (n:Bool) (l:List PV):lit (.v (.bool n) :: l) = zEU [n] l:=(rfl)
theorem zsL (n:List Int) (l:List PV):lit (.sl false 1 (iL n) :: l) = zEV [n] l:=(rfl)
theorem zim (a:List Int):zES a [] = iL a:=List.append_nil _
theorem zin (a:List ByteArray):zET a [] = sL a:=List.append_nil _
theorem zio (a:List Bool):zEU a [] = bL a:=List.append_nil _
theorem zip (a:List (List Int)):zEV a [] = iLL a:=List.append_nil _
theorem zgh (a:List Int) (n:Int) (l:List PV):zES a (.v (.int .i64 n) :: l) = zES (a ++ [n]) l:=by simp [zES,iL]
theorem zgi (a:List ByteArray) (n:ByteArray) (l:List PV):zET a (.v (.string n) :: l) = zET (a ++ [n]) l:=by simp [zET,sL]
theorem zgj (a:List Bool) (n:Bool) (l:List PV):zEU a (.v (.bool n) :: l) = zEU (a ++ [n]) l:=by simp [zEU,bL]
theorem zgk (a:List (List Int)) (n:List Int) (l:List PV):zEV a (.sl false 1 (iL n) :: l) = zEV (a ++ [n]) l:=by simp [zEV,iLL]
theorem zlm (d e n:Nat) (parts:List (Nat × Operand)) (h2:(T e).size = 1) :
 zwO T s d (.sli e) 1 n parts K = (n = parts.length∧zm0 0 parts = true∧n ≤ 16777216∧zkR s.rw 1 (evs s parts) (kk fun c f=>d ∉ f∧K (((s.freeze f).row d ⟨(s.rw d).ver + 1,.sli e 1 false (lit c)⟩).put (some d) (.own d ((s.rw d).ver + 1))))):=by
 unfold zwO kk
 simp only [h2,Nat.one_pos,true_and,Nat.mul_one]
 rfl
theorem zos (i:Nat):zm0 i [] = true:=(rfl)
theorem zln (i j:Nat) (x:Operand) (l:List (Nat × Operand)):zm0 i ((j,x) :: l) = (j == i && zm0 (i + 1) l):=(rfl)
theorem zot (rw:Nat→Row) (es:Nat) (Kp:List PV→List Nat→Prop):zkR rw es [] (kk Kp) = Kp [] []:=(rfl)
theorem zlo (rw:Nat→Row) (es:Nat) (p:PV) (ps:List PV) (Kp:List PV→List Nat→Prop):zkR rw es (p :: ps) (kk Kp) = zcQ rw p (kk fun c f=>c.length = es∧zkR rw es ps (kk fun cs fs=>Kp (c ++ cs) (f ++ fs))):=(rfl)
theorem zou [zai] (t:TypeId) (ad x:Operand):opK P T s ⟨none,.store t ad x,ty,pos,af,g⟩ K = zp2 T s t (s.ev ad) (s.ev x) (kk K):=by
 show ((none:Option Nat) = none∧zp2 T s t (s.ev ad) (s.ev x) K) = _
 simp [kk]
def zCG (T:Tab) (t:TypeId) (l c:PV) (K:TypeId→List PV→Prop):Prop :=
 match (T t).k,l,c with
 | .sli e,.v (.int _ nl),.v (.int _ nc)=>0 < (T t).size∧(T e).size = 1∧(match (T e).zero with
  | [z]=>0 ≤ nl∧nl ≤ nc∧((T e).bytes:Int) * nc ≤ 281474976710656∧nc ≤ 9223372036854775807∧K e (List.replicate nl.toNat (.v z))
  | _=>False)
 | _,_,_=>False
theorem zsM [zai] (d:Nat) (t:TypeId) (l c:Operand):opK P T s ⟨some d,.makeSlice t l c,ty,pos,af,g⟩ K = zCG T t (s.ev l) (s.ev c) (kk fun e cs=>K (zcR s d (.sli e 1 false cs) fun v=>.own d v)):=by
 unfold zCG kk
 simp only [opK]
 generalize (T t).k = a
 generalize s.ev l = b
 generalize s.ev c = e
 cases a <;> first | rfl | skip
 cases b <;> first | rfl | skip
 rename_i v
 cases v <;> first | rfl | skip
 cases e <;> first | rfl | skip
 rename_i v
 cases v <;> rfl
def zCH (T:Tab) (kd:TK) (z:Nat) (l c:PV) (K:TypeId→List PV→Prop):Prop :=
 match kd,l,c with
 | .sli e,.v (.int _ nl),.v (.int _ nc)=>0 < z∧(T e).size = 1∧(match (T e).zero with
  | [z]=>0 ≤ nl∧nl ≤ nc∧((T e).bytes:Int) * nc ≤ 281474976710656∧nc ≤ 9223372036854775807∧K e (List.replicate nl.toNat (.v z))
  | _=>False)
 | _,_,_=>False
theorem zwP (t:TypeId) (l c:PV) (Kc:TypeId→List PV→Prop):zCG T t l c Kc = zCH T (T t).k (T t).size l c Kc:=(rfl)
def zCI (zs:List Value) (K:Value→Prop):Prop:=match zs with | [z]=>K z | _=>False
theorem zov (z:Value) (Kz:Value→Prop):zCI [z] Kz = Kz z:=(rfl)
theorem zow {e:TypeId} {k1 k2:IntKind} {nl nc:Int} {Kc:TypeId→List PV→Prop} (h2:(T e).size = 1) :
 zCH T (.sli e) 1 (.v (.int k1 nl)) (.v (.int k2 nc)) Kc = zCI (T e).zero (kk fun z=>0 ≤ nl∧nl ≤ nc∧((T e).bytes:Int) * nc ≤ 281474976710656∧nc ≤ 9223372036854775807∧Kc e (List.replicate nl.toNat (.v z))):=by
 unfold zCH zCI kk
 simp only [h2,Nat.one_pos,true_and]
def zDZ (T:Tab) (s:St) (t:TypeId) (x:PV) (lo hi mx:Option Operand) (K:List Nat→PV→Prop):Prop :=
 match x with
 | .own k ver=>(match (s.rw k).kind with
  | .sli _ _ false _=>zby T (s.freeze [k]).rw s.ev t (.own k ver) lo hi mx (K [k])
  | _=>zby T s.rw s.ev t (.own k ver) lo hi mx (K []))
 | x=>zby T s.rw s.ev t x lo hi mx (K [])
theorem zox [zai] (t:TypeId) (x:Operand) (lo hi mx:Option Operand):opK P T s ⟨dst,.slice t x lo hi mx,ty,pos,af,g⟩ K = zDZ T s t (s.ev x) lo hi mx (kk fun fz p=>K ((s.freeze fz).put dst p)):=by
 have e:s.freeze [] = s:=St.freeze_nil s
 have h:∀ q,s.ev x = q→(match q with
  | .own k _=>(match (s.rw k).kind with
   | .sli _ _ false _=>zh7 T (s.freeze [k]).rw s.ev (.slice t x lo hi mx) fun p=>K ((s.freeze [k]).put dst p)
   | _=>zh7 T s.rw s.ev (.slice t x lo hi mx) fun p=>K (s.put dst p))
  | _=>zh7 T s.rw s.ev (.slice t x lo hi mx) fun p=>K (s.put dst p)) = zDZ T s t q lo hi mx fun fz p=>K ((s.freeze fz).put dst p):=by
  intro q hq
  unfold zDZ
  cases q <;> simp only [zh7,hq,e]
 exact h _ rfl
end
def zD0 (s:St) (l:List (Nat × Operand)):List (Nat × PV):=l.map fun x=>(x.1,s.ev x.2)
theorem zsN:zD0 s [] = []:=(rfl)
theorem zoy (n:Nat) (x:Operand) (l:List (Nat × Operand)):zD0 s ((n,x) :: l) = (n,s.ev x) :: zD0 s l:=(rfl)
def zgl (T:Tab):List (Nat × TypeId)→Prop | []=>True | x :: fs=>0 < (T x.2).size∧zgl T fs
theorem zlp:zgl T [] = True:=(rfl)
theorem zi3 (o:Nat) (t:TypeId) (fs:List (Nat × TypeId)):zgl T ((o,t) :: fs) = (0 < (T t).size∧zgl T fs):=(rfl)
theorem zwQ:∀ fs:List (Nat × TypeId),(∀ x ∈ fs,0 < (T x.2).size) = zgl T fs:=by
 intro fs
 induction fs with
 | nil=>simp [zgl]
 | cons x fs ih=>rw [zgl,← ih];simp
def zEW (T:Tab) (rw:Nat→Row) (kd:TK) (z:Nat) (zs:List Value) (pp:List (Nat × PV)) (K:PV→Prop):Prop :=
 0 < z∧match kd with
 | .struct fs=>zgl T fs∧zc7 T rw fs pp (zs.map PV.v) fun c=>K (.ag c)
 | _=>False
theorem zBw [zai] (t:TypeId) (parts:List (Nat × Operand)) (Kp:PV→Prop):zfI T s.rw s.ev t ⟨parts⟩ Kp = zEW T s.rw (T t).k (T t).size (T t).zero (zD0 s parts) (kk Kp):=by
 unfold zfI zEW kk
 cases (T t).k <;> first | rfl | skip
 simp only [zwQ]
 rfl
theorem zi4 (rw:Nat→Row) (fs:List (Nat × TypeId)) (z:Nat) (zs:List Value) (pp:List (Nat × PV)) (Kp:PV→Prop) :
 zEW T rw (.struct fs) z zs pp (kk Kp) = (0 < z∧zgl T fs∧zc7 T rw fs pp (zs.map PV.v) (kk fun c=>Kp (.ag c))):=(rfl)
theorem zoz (rw:Nat→Row) (fs:List (Nat × TypeId)) (c:List PV) (Kc:List PV→Prop):zc7 T rw fs [] c (kk Kc) = Kc c:=(rfl)
def zF8 (T:Tab) (rw:Nat→Row) (fs:List (Nat × TypeId)) (x:Option (Nat × TypeId)) (p:PV) (rest:List (Nat × PV)) (cells:List PV) (Kc:List PV→Prop):Prop :=
 match x with
 | some (off,ft)=>zaU rw p fun c=>c.length = (T ft).size∧off + c.length ≤ cells.length∧zc7 T rw fs rest (spl cells off c) Kc
 | none=>False
theorem zlq (rw:Nat→Row) (fs:List (Nat × TypeId)) (i:Nat) (p:PV) (rest:List (Nat × PV)) (c:List PV) (Kc:List PV→Prop):zc7 T rw fs ((i,p) :: rest) c (kk Kc) = zF8 T rw fs fs[i]? p rest c (kk Kc):=by
 unfold zF8 kk
 rw [zc7]
 cases fs[i]? <;> rfl
theorem zoA (rw:Nat→Row) (fs:List (Nat × TypeId)) (off:Nat) (ft:TypeId) (p:PV) (rest:List (Nat × PV)) (cells:List PV) (Kc:List PV→Prop) :
 zF8 T rw fs (some (off,ft)) p rest cells (kk Kc) = zaU rw p (kk fun c=>c.length = (T ft).size∧off + c.length ≤ cells.length∧zc7 T rw fs rest (spl cells off c) (kk Kc)):=(rfl)
section
variable {dst:Option Nat} {ty:TypeId} {pos:String} {af:Array Edge} {g:Option (Nat × Bool)}
theorem zoB [zai] (t:TypeId) (parts:List (Nat × Operand)):opK P T s ⟨dst,.build t ⟨parts⟩,ty,pos,af,g⟩ K = zEW T s.rw (T t).k (T t).size (T t).zero (zD0 s parts) (kk fun p=>K (s.put dst p)):=by
 rw [← zBw];rfl
def ncD (rw:Nat→Row) (kd:TK) (z:Nat) (x:PV) (Kb:Bool→Prop):Prop:=0 < z∧match kd with | .sli _=>slK rw x fun _ _ c=>Kb false∧(c = []→Kb true) | _=>False
theorem zi5 [zai] (t t2:TypeId) (x:Operand):zd1 P T s ⟨dst,.binOp .eql t x (.const (.slice none 0 0)) t2,ty,pos,af,g⟩ K = ncD s.rw (T t).k (T t).size (s.ev x) (kk fun b=>K (s.put dst (.v (.bool b)))):=(rfl)
theorem zi6 [zai] (t t2:TypeId) (x:Operand):zd1 P T s ⟨dst,.binOp .neq t x (.const (.slice none 0 0)) t2,ty,pos,af,g⟩ K = ncD s.rw (T t).k (T t).size (s.ev x) (kk fun b=>K (s.put dst (.v (.bool !b)))):=(rfl)
theorem zBx (rw:Nat→Row) (e z z':Nat) (fr:Bool) (c:List PV) (Kb:Bool→Prop):ncD rw (.sli e) z (.sl fr z' c) (kk Kb) = (0 < z∧Kb false∧(c = []→Kb true)):=(rfl)
def zuN (r:Row) (ver:Nat) (Kb:Bool→Prop):Prop:=r.ver = ver∧match r.kind with | .nil=>Kb false∧Kb true | .sli _ _ _ c=>Kb false∧(c = []→Kb true) | _=>False
theorem zwR (rw:Nat→Row) (e z j v:Nat) (Kb:Bool→Prop):ncD rw (.sli e) z (.own j v) (kk Kb) = (0 < z∧zuN (rw j) v (kk Kb)):=by
 unfold ncD zuN kk slK
 dsimp only
 cases (rw j).kind <;> simp
theorem zoC (ver e sz:Nat) (fz:Bool) (c:List PV) (Kb:Bool→Prop):zuN ⟨ver,.sli e sz fz c⟩ ver (kk Kb) = (Kb false∧(c = []→Kb true)):=by simp [zuN,kk]
theorem zoD (ver:Nat) (Kb:Bool→Prop):zuN ⟨ver,.nil⟩ ver (kk Kb) = (Kb false∧Kb true):=by simp [zuN,kk]
theorem zsO [zai] (x:Operand):zd1 P T s ⟨dst,.move x,ty,pos,af,g⟩ K = opK P T s ⟨dst,.move x,ty,pos,af,g⟩ K:=(rfl)
theorem zlr [zai] (x:Operand):zd1 P T s ⟨dst,.assign x,ty,pos,af,g⟩ K = opK P T s ⟨dst,.assign x,ty,pos,af,g⟩ K:=(rfl)
theorem zsP [zai] (c x y:Operand):zd1 P T s ⟨dst,.pick c x y,ty,pos,af,g⟩ K = opK P T s ⟨dst,.pick c x y,ty,pos,af,g⟩ K:=(rfl)
theorem zBy [zai] (op:UnOp) (t:TypeId) (x:Operand):zd1 P T s ⟨dst,.unOp op t x,ty,pos,af,g⟩ K = opK P T s ⟨dst,.unOp op t x,ty,pos,af,g⟩ K:=(rfl)
theorem zi7 [zai] (a b:TypeId) (x:Operand):zd1 P T s ⟨dst,.convert a b x,ty,pos,af,g⟩ K = opK P T s ⟨dst,.convert a b x,ty,pos,af,g⟩ K:=(rfl)
theorem zsQ [zai] (t:TypeId) (x:Operand):zd1 P T s ⟨dst,.load t x,ty,pos,af,g⟩ K = opK P T s ⟨dst,.load t x,ty,pos,af,g⟩ K:=(rfl)
theorem zgm [zai] (t:TypeId) (x:Operand) (f:Nat):zd1 P T s ⟨dst,.fieldAddr t x f,ty,pos,af,g⟩ K = opK P T s ⟨dst,.fieldAddr t x f,ty,pos,af,g⟩ K:=(rfl)
theorem zoE [zai] (t:TypeId) (x:Operand) (f:Nat):zd1 P T s ⟨dst,.field t x f,ty,pos,af,g⟩ K = opK P T s ⟨dst,.field t x f,ty,pos,af,g⟩ K:=(rfl)
theorem zgn [zai] (t:TypeId) (x i:Operand):zd1 P T s ⟨dst,.indexAddr t x i,ty,pos,af,g⟩ K = opK P T s ⟨dst,.indexAddr t x i,ty,pos,af,g⟩ K:=(rfl)
theorem zoF [zai] (t:TypeId) (x i:Operand):zd1 P T s ⟨dst,.index t x i,ty,pos,af,g⟩ K = opK P T s ⟨dst,.index t x i,ty,pos,af,g⟩ K:=(rfl)
theorem zi8 [zai] (x:Operand) (i:Nat):zd1 P T s ⟨dst,.extract x i,ty,pos,af,g⟩ K = opK P T s ⟨dst,.extract x i,ty,pos,af,g⟩ K:=(rfl)
theorem zhy [zai] (x:Operand):zd1 P T s ⟨dst,.nilCheck x,ty,pos,af,g⟩ K = opK P T s ⟨dst,.nilCheck x,ty,pos,af,g⟩ K:=(rfl)
theorem zhz [zai] (f:Fn) (fi caps:Array Operand):zd1 P T s ⟨dst,.makeFunc f fi caps,ty,pos,af,g⟩ K = opK P T s ⟨dst,.makeFunc f fi caps,ty,pos,af,g⟩ K:=(rfl)
theorem zoG [zai] (t:TypeId):zd1 P T s ⟨dst,.alloc t,ty,pos,af,g⟩ K = opK P T s ⟨dst,.alloc t,ty,pos,af,g⟩ K:=(rfl)
theorem zwS [zai] (t:TypeId) (x:Operand):zd1 P T s ⟨dst,.box t x,ty,pos,af,g⟩ K = opK P T s ⟨dst,.box t x,ty,pos,af,g⟩ K:=(rfl)
theorem zls [zai] (t:TypeId) (n:Nat):zd1 P T s ⟨dst,.buildSlice t n ⟨[]⟩,ty,pos,af,g⟩ K = opK P T s ⟨dst,.buildSlice t n ⟨[]⟩,ty,pos,af,g⟩ K:=(rfl)
theorem zlt [zai] (t:TypeId) (n:Nat) (p q:Nat × Operand) (l:List (Nat × Operand)):zd1 P T s ⟨dst,.buildSlice t n ⟨p :: q :: l⟩,ty,pos,af,g⟩ K = opK P T s ⟨dst,.buildSlice t n ⟨p :: q :: l⟩,ty,pos,af,g⟩ K:=(rfl)
def zBz (T:Tab) (s:St) (d:Nat) (t:TypeId) (n i:Nat) (p:PV) (Kt:St→Prop) (A:Prop):Prop :=
 match p with
 | .own k ver=>(match (s.rw k).kind with | .tab _ _=>zjP T s d t n i k ver Kt | .sli _ _ _ _=>A ∨ zjP T s d t n i k ver Kt | _=>A)
 | _=>A
theorem zlu [zai] (d:Nat) (t:TypeId) (n i:Nat) (x:Operand):zd1 P T s ⟨some d,.buildSlice t n ⟨[(i,x)]⟩,ty,pos,af,g⟩ K =
 zBz T s d t n i (s.ev x) (kk K) (kk (opK P T s ⟨some d,.buildSlice t n ⟨[(i,x)]⟩,ty,pos,af,g⟩ K)):=by
 unfold zd1 zBz kk
 dsimp only
 cases s.ev x <;> rfl
theorem zBA (d:Nat) (t:TypeId) (n i:Nat) (x:Value) (A:Prop):zBz T s d t n i (.v x) (kk K) (kk A) = A:=(rfl)
theorem zwT (d:Nat) (t:TypeId) (n i:Nat) (fr:Bool) (z:Nat) (c:List PV) (A:Prop):zBz T s d t n i (.sl fr z c) (kk K) (kk A) = A:=(rfl)
theorem zwU (d:Nat) (t:TypeId) (n i:Nat) (c:List PV) (A:Prop):zBz T s d t n i (.ag c) (kk K) (kk A) = A:=(rfl)
theorem zoH (d:Nat) (t:TypeId) (n i:Nat) (fr:Bool) (c:List PV) (o:Nat) (A:Prop):zBz T s d t n i (.eref fr c o) (kk K) (kk A) = A:=(rfl)
theorem zsR (d:Nat) (t:TypeId) (n i:Nat) (j v o:Nat) (A:Prop):zBz T s d t n i (.ref j v o) (kk K) (kk A) = A:=(rfl)
def zsS (T:Tab) (r:Row) (s:St) (d:Nat) (t:TypeId) (n i k ver:Nat) (Kt:St→Prop) (A:Prop):Prop:=match r.kind with | .tab _ _=>zjP T s d t n i k ver Kt | .sli _ _ _ _=>A ∨ zjP T s d t n i k ver Kt | _=>A
theorem zsT (d:Nat) (t:TypeId) (n i k ver:Nat) (A:Prop):zBz T s d t n i (.own k ver) (kk K) (kk A) = zsS T (s.rw k) s d t n i k ver (kk K) (kk A):=(rfl)
theorem zlv (d:Nat) (t:TypeId) (n i k ver v:Nat) (A:Prop):zsS T ⟨v,.nil⟩ s d t n i k ver (kk K) (kk A) = A:=(rfl)
def zg4 (T:Tab) (s:St) (d:Nat) (kd:TK) (z n i k ver:Nat) (r:Row) (K:St→Prop):Prop:=0 < z∧n = 1∧i = 0∧r.ver = ver∧r.kind.slice = true∧d ≠ k∧(match kd with
 | .sli e=>(T e).size = 1∧K ((s.row d ⟨(s.rw d).ver + 1,.tab e [.own k ver]⟩).put (some d) (.own d ((s.rw d).ver + 1)))
 | _=>False)
def orB (A B:Prop):Prop:=A ∨ B
theorem zF9 {A B:Prop} {u:Dm A} {v:Dm B} (h:A):orB (kk A u) (kk B v):=.inl h
theorem zGa {A B:Prop} {u:Dm A} {v:Dm B} (h:B):orB (kk A u) (kk B v):=.inr h
theorem zlw (d:Nat) (t:TypeId) (n i k ver v e z:Nat) (fz:Bool) (c:List PV) (A:Prop):zsS T ⟨v,.sli e z fz c⟩ s d t n i k ver (kk K) (kk A) = orB (kk A) (kk (zg4 T s d (T t).k (T t).size n i k ver (s.rw k) K)):=(rfl)
theorem zi9 (d e k ver e' z:Nat) (fz:Bool) (c:List PV) (h:(T e).size = 1):zg4 T s d (.sli e) 1 1 0 k ver ⟨ver,.sli e' z fz c⟩ K = (d ≠ k∧K ((s.row d ⟨(s.rw d).ver + 1,.tab e [.own k ver]⟩).put (some d) (.own d ((s.rw d).ver + 1)))):=by
 simp only [zg4,h,RK.slice,Nat.one_pos,true_and]
theorem zlx (d:Nat) (t:TypeId) (n i k ver v e:Nat) (c:List PV) (A:Prop):zsS T ⟨v,.tab e c⟩ s d t n i k ver (kk K) (kk A) = zg4 T s d (T t).k (T t).size n i k ver (s.rw k) K:=(rfl)
theorem zja (d e k ver e':Nat) (c:List PV) (h:(T e).size = 1):zg4 T s d (.sli e) 1 1 0 k ver ⟨ver,.tab e' c⟩ K = (d ≠ k∧K ((s.row d ⟨(s.rw d).ver + 1,.tab e [.own k ver]⟩).put (some d) (.own d ((s.rw d).ver + 1)))):=by
 simp only [zg4,h,RK.slice,Nat.one_pos,true_and]
def zBB (T:Tab) (s:St) (d:Nat) (t t2:TypeId) (x:PV) (y:PV) (Kt:St→Prop) (A:Prop):Prop :=
 match x with
 | .own k ver=>(match (s.rw k).kind with | .tab e c=>zFZ T s d t t2 k ver e c y Kt | _=>A)
 | _=>A
def zD1 (T:Tab) (s:St) (d:Nat) (t t2:TypeId) (x:PV) (y:PV) (Kt:St→Prop) (A:Prop):Prop :=
 match y with
 | .v (.string b)=>zrm T s d t t2 x b Kt
 | _=>zBB T s d t t2 x y Kt A
theorem zly [zai] (d:Nat) (x y:Operand) (t t2:TypeId):zd1 P T s ⟨some d,.call ⟨.builtin .append,⟨[x,y]⟩,⟨[t,t2]⟩⟩,ty,pos,af,g⟩ K =
 zD1 T s d t t2 (s.ev x) (s.ev y) (kk K) (kk (opK P T s ⟨some d,.call ⟨.builtin .append,⟨[x,y]⟩,⟨[t,t2]⟩⟩,ty,pos,af,g⟩ K)):=by
 unfold zd1 zD1 zBB kk
 dsimp only
 cases s.ev y with
 | v z=>cases z <;> first | rfl | (cases s.ev x <;> rfl)
 | _=>cases s.ev x <;> rfl
theorem zsU (d:Nat) (t t2:TypeId) (x:PV) (k ver:Nat) (A:Prop):zD1 T s d t t2 x (.own k ver) (kk K) (kk A) = zBB T s d t t2 x (.own k ver) (kk K) (kk A):=(rfl)
theorem zwV (d:Nat) (t t2:TypeId) (x:PV) (fr:Bool) (z:Nat) (c:List PV) (A:Prop):zD1 T s d t t2 x (.sl fr z c) (kk K) (kk A) = zBB T s d t t2 x (.sl fr z c) (kk K) (kk A):=(rfl)
theorem zlz (d:Nat) (t t2:TypeId) (x:PV) (a:Option Addr) (n c:Nat) (A:Prop):zD1 T s d t t2 x (.v (.slice a n c)) (kk K) (kk A) = zBB T s d t t2 x (.v (.slice a n c)) (kk K) (kk A):=(rfl)
def zwW (T:Tab) (r:Row) (s:St) (d:Nat) (kd:TK) (z:Nat) (kd2:TK) (z2 k ver:Nat) (b:ByteArray) (K:St→Prop):Prop :=
 0 < z∧0 < z2∧kd2 = .str∧match kd with
 | .sli e=>(T e).size = 1∧0 < (T e).bytes∧(r.ver = ver∧(match r.kind with
  | .nil=>b.size * (T e).bytes ≤ 140737488355328∧K (zc8 s d k (.sli e (T e).size false (zuc b)))
  | .sli e' sz' false c=>e' = e∧sz' = (T e).size∧(c.length + b.size) * (T e).bytes ≤ 140737488355328∧K (zc8 s d k (.sli e (T e).size false (c ++ zuc b)))
  | _=>False))
 | _=>False
theorem zsV (d:Nat) (t t2:TypeId) (k ver:Nat) (b:ByteArray) (A:Prop):zD1 T s d t t2 (.own k ver) (.v (.string b)) (kk K) (kk A) = zwW T (s.rw k) s d (T t).k (T t).size (T t2).k (T t2).size k ver b (kk K):=(rfl)
theorem zoI (d k ver e:Nat) (c:List PV) (b:ByteArray) (h:(T e).size = 1) (h2:(T e).bytes = 1):zwW T ⟨ver,.sli e 1 false c⟩ s d (.sli e) 1 .str 1 k ver b (kk K) =
 (c.length + b.size ≤ 140737488355328∧K (zc8 s d k (.sli e 1 false (c ++ zuc b)))):=by
 simp only [zwW,h,h2,Nat.one_pos,true_and,kk,Nat.mul_one]
theorem zoJ (d k ver e:Nat) (b:ByteArray) (h:(T e).size = 1) (h2:(T e).bytes = 1):zwW T ⟨ver,.nil⟩ s d (.sli e) 1 .str 1 k ver b (kk K) =
 (b.size ≤ 140737488355328∧K (zc8 s d k (.sli e 1 false (zuc b)))):=by
 simp only [zwW,h,h2,Nat.one_pos,true_and,kk,Nat.mul_one]
theorem zBC (d:Nat) (t t2:TypeId) (x:Value) (y:PV) (A:Prop):zBB T s d t t2 (.v x) y (kk K) (kk A) = A:=(rfl)
theorem zwX (d:Nat) (t t2:TypeId) (fr:Bool) (z:Nat) (c:List PV) (y:PV) (A:Prop):zBB T s d t t2 (.sl fr z c) y (kk K) (kk A) = A:=(rfl)
def zmL (T:Tab) (r:Row) (s:St) (d:Nat) (t t2:TypeId) (k ver:Nat) (y:PV) (Kt:St→Prop) (A:Prop):Prop:=match r.kind with | .tab e c=>zFZ T s d t t2 k ver e c y Kt | _=>A
theorem zsW (d:Nat) (t t2:TypeId) (k ver:Nat) (y:PV) (A:Prop):zBB T s d t t2 (.own k ver) y (kk K) (kk A) = zmL T (s.rw k) s d t t2 k ver y (kk K) (kk A):=(rfl)
theorem zjb (d:Nat) (t t2:TypeId) (k ver v e z:Nat) (fz:Bool) (c:List PV) (y:PV) (A:Prop):zmL T ⟨v,.sli e z fz c⟩ s d t t2 k ver y (kk K) (kk A) = A:=(rfl)
theorem zjc (d:Nat) (t t2:TypeId) (k ver v:Nat) (y:PV) (A:Prop):zmL T ⟨v,.nil⟩ s d t t2 k ver y (kk K) (kk A) = A:=(rfl)
def zCJ (T:Tab) (s:St) (d:Nat) (kd:TK) (z k ver e:Nat) (r:Row) (c:List PV) (y:PV) (K:St→Prop):Prop :=
 0 < z∧kd = .sli e∧(T e).size = 1∧0 < (T e).bytes∧r.ver = ver∧zva s.rw y fun news=>(c.length + news.length) * (T e).bytes ≤ 140737488355328∧K (zc8 s d k (.tab e (c ++ news)))
theorem zjd (d:Nat) (t:TypeId) (k ver v e:Nat) (c:List PV) (y:PV) (A:Prop):zmL T ⟨v,.tab e c⟩ s d t t k ver y (kk K) (kk A) = zCJ T s d (T t).k (T t).size k ver e (s.rw k) c y (kk K):=propext ⟨fun h=>h.2,fun h=>⟨rfl,h⟩⟩
theorem zoK (d k ver e e':Nat) (c c':List PV) (y:PV) (h:(T e).size = 1) (h2:0 < (T e).bytes):zCJ T s d (.sli e) 1 k ver e ⟨ver,.tab e' c'⟩ c y (kk K) =
 zva s.rw y (kk fun news=>(c.length + news.length) * (T e).bytes ≤ 140737488355328∧K (zc8 s d k (.tab e (c ++ news)))):=by
 simp only [zCJ,h,h2,Nat.one_pos,true_and,kk]
def zoL (r:Row) (rw:Nat→Row) (v:Nat) (Kc:List PV→Prop):Prop:=r.ver = v∧(match r.kind with
 | .sli _ sz _ c=>sz = 1∧(∀ p ∈ c,isV p = true)∧Kc c
 | .tab _ c=>(∀ p ∈ c,zkI rw p)∧Kc c
 | _=>False)
theorem zoM (rw:Nat→Row) (j v:Nat) (Kc:List PV→Prop):zva rw (.own j v) (kk Kc) = zoL (rw j) rw v (kk Kc):=(rfl)
theorem zoN [zai] (rw:Nat→Row) (v e:Nat) (fz:Bool) (xs:List Int) (Kc:List PV→Prop):zoL ⟨v,.sli e 1 fz (iL xs)⟩ rw v (kk Kc) = Kc (iL xs):=by
 have:=zwh xs
 simp only [zoL,this,true_and,kk]
theorem zlA (rw:Nat→Row) (v e k ver:Nat) (Kc:List PV→Prop):zoL ⟨v,.tab e [.own k ver]⟩ rw v (kk Kc) = (zkI rw (.own k ver)∧Kc [.own k ver]):=by
 simp only [zoL,true_and,kk,List.mem_singleton,forall_eq]
theorem zoO [zai] (t:TypeId) (parts:Array (Nat × Operand)):zd1 P T s ⟨dst,.build t parts,ty,pos,af,g⟩ K = opK P T s ⟨dst,.build t parts,ty,pos,af,g⟩ K:=(rfl)
theorem zoP [zai] (t:TypeId) (ad x:Operand):zd1 P T s ⟨dst,.store t ad x,ty,pos,af,g⟩ K = opK P T s ⟨dst,.store t ad x,ty,pos,af,g⟩ K:=(rfl)
theorem zsX [zai] (t:TypeId) (l c:Operand):zd1 P T s ⟨dst,.makeSlice t l c,ty,pos,af,g⟩ K = opK P T s ⟨dst,.makeSlice t l c,ty,pos,af,g⟩ K:=(rfl)
theorem zoQ [zai] (t:TypeId) (x:Operand) (lo hi mx:Option Operand):zd1 P T s ⟨dst,.slice t x lo hi mx,ty,pos,af,g⟩ K = opK P T s ⟨dst,.slice t x lo hi mx,ty,pos,af,g⟩ K:=(rfl)
theorem zje [zai] (op:BinOp) (t t2:TypeId) (x:Operand) (y:Nat):zd1 P T s ⟨dst,.binOp op t x (.tmp y) t2,ty,pos,af,g⟩ K = opK P T s ⟨dst,.binOp op t x (.tmp y) t2,ty,pos,af,g⟩ K:=by cases op <;> rfl
theorem zjf [zai] (op:BinOp) (t t2:TypeId) (x:Operand) (k:IntKind) (n:Int):zd1 P T s ⟨dst,.binOp op t x (.const (.int k n)) t2,ty,pos,af,g⟩ K = opK P T s ⟨dst,.binOp op t x (.const (.int k n)) t2,ty,pos,af,g⟩ K:=by cases op <;> rfl
theorem zhA [zai] (op:BinOp) (t t2:TypeId) (x:Operand) (b:Bool):zd1 P T s ⟨dst,.binOp op t x (.const (.bool b)) t2,ty,pos,af,g⟩ K = opK P T s ⟨dst,.binOp op t x (.const (.bool b)) t2,ty,pos,af,g⟩ K:=by cases op <;> rfl
theorem zfw [zai] (op:BinOp) (t t2:TypeId) (x:Operand) (b:ByteArray):zd1 P T s ⟨dst,.binOp op t x (.const (.string b)) t2,ty,pos,af,g⟩ K = opK P T s ⟨dst,.binOp op t x (.const (.string b)) t2,ty,pos,af,g⟩ K:=by cases op <;> rfl
end
section
variable {dst:Option Nat} {ty:TypeId} {pos:String} {af:Array Edge} {g:Option (Nat × Bool)} {Ke:Ent→St→Prop}
theorem zwY [zai] (x:Operand):dK P T s ⟨dst,.move x,ty,pos,af,g⟩ (kk Ke) = evK (s.ev x) (kk fun p=>Ke ⟨[],.ids []⟩ (s.put dst p)):=(rfl)
theorem zoR [zai] (x:Operand):dK P T s ⟨dst,.assign x,ty,pos,af,g⟩ (kk Ke) = evK (s.ev x) (kk fun p=>Ke ⟨[],.ids []⟩ (s.put dst p)):=(rfl)
theorem zwZ [zai] (c x y:Operand):dK P T s ⟨dst,.pick c x y,ty,pos,af,g⟩ (kk Ke) = zzX (s.ev c) (kk (evK (s.ev x) (kk fun p=>Ke ⟨[],.ids []⟩ (s.put dst p)))) (kk (evK (s.ev y) (kk fun p=>Ke ⟨[],.ids []⟩ (s.put dst p)))):=(rfl)
theorem zBD [zai] (op:BinOp) (t t2:TypeId) (x y:Operand):dK P T s ⟨dst,.binOp op t x y t2,ty,pos,af,g⟩ (kk Ke) = zcX T op t (s.ev x) (s.ev y) (kk fun p=>Ke ⟨[],.ids []⟩ (s.put dst p)):=(rfl)
theorem zEX [zai] (op:UnOp) (t:TypeId) (x:Operand):dK P T s ⟨dst,.unOp op t x,ty,pos,af,g⟩ (kk Ke) = unK op (s.ev x) (kk fun p=>Ke ⟨[],.ids []⟩ (s.put dst p)):=(rfl)
theorem zlB [zai] (a b:TypeId) (x:Operand):dK P T s ⟨dst,.convert a b x,ty,pos,af,g⟩ (kk Ke) = zc4 [s.ev x] [] (kk fun l=>zfj T s.rw a b (s.ev x) (kk fun p=>Ke ⟨l,.ids []⟩ (s.put dst p))):=(rfl)
theorem zw0 [zai] (t:TypeId) (x:Operand):dK P T s ⟨dst,.load t x,ty,pos,af,g⟩ (kk Ke) = zc4 [s.ev x] [] (kk fun l=>zqO s.rw (s.ev x) (kk fun m c off=>ldK T t m c off (kk fun p=>Ke ⟨l,.ids []⟩ (s.put dst p)))):=(rfl)
theorem zhB [zai] (t:TypeId) (x:Operand) (f:Nat):dK P T s ⟨dst,.fieldAddr t x f,ty,pos,af,g⟩ (kk Ke) =
 zc4 [s.ev x] [] (kk fun l=>zdE T t f (kk fun o _=>zj2 (s.ev x) = true∧zdm s.rw (s.ev x) (kk (evK (zdY (s.ev x) o) (kk fun p=>Ke ⟨l,.ids []⟩ (s.put dst p)))))):=(rfl)
theorem zsY [zai] (t:TypeId) (x:Operand) (f:Nat):dK P T s ⟨dst,.field t x f,ty,pos,af,g⟩ (kk Ke) =
 agK (s.ev x) (kk fun c=>zdE T t f (kk fun o ft=>ldK T ft .asis c o (kk fun p=>Ke ⟨[],.ids []⟩ (s.put dst p)))):=zi1 (P:=P) (T:=T) (s:=s) (K:=Ke ⟨[],.ids []⟩) (dst:=dst) (ty:=ty) (pos:=pos) (af:=af) (g:=g) t x f
theorem zhC [zai] (t:TypeId) (x y:Operand):dK P T s ⟨dst,.indexAddr t x y,ty,pos,af,g⟩ (kk Ke) = zc4 [s.ev x,s.ev y] [] (kk fun l=>zbo T s.rw t (s.ev x) (s.ev y) (kk fun p=>Ke ⟨l,.ids []⟩ (s.put dst p))):=(rfl)
theorem zsZ [zai] (t:TypeId) (x y:Operand):dK P T s ⟨dst,.index t x y,ty,pos,af,g⟩ (kk Ke) = zsG T t (s.ev x) (s.ev y) (kk fun p=>Ke ⟨[],.ids []⟩ (s.put dst p)):=(rfl)
theorem zlC [zai] (x:Operand) (n:Nat):dK P T s ⟨dst,.extract x n,ty,pos,af,g⟩ (kk Ke) = zF7 (s.ev x) (kk fun ps=>n < ps.length∧evK (ps.getD n .junk) (kk fun p=>Ke ⟨[],.ids []⟩ (s.put dst p))):=(rfl)
theorem zjg [zai] (f:FuncId) (caps:Array Operand):dK P T s ⟨dst,.makeFunc (.func f) #[] caps,ty,pos,af,g⟩ (kk Ke) = Ke ⟨[],.ids []⟩ (s.put dst (.clo f (caps.toList.map s.ev))):=by
 show (#[] = (#[]:Array Operand)∧Ke ⟨[],.ids []⟩ (s.put dst (.clo f (caps.toList.map s.ev)))) = _
 simp
theorem zjh [zai] (x:Operand):dK P T s ⟨dst,.nilCheck x,ty,pos,af,g⟩ (kk Ke) = zc4 [s.ev x] [] (kk fun l=>zdm s.rw (s.ev x) (kk (evK (s.ev x) (kk fun p=>Ke ⟨l,.ids []⟩ (s.put dst p))))):=(rfl)
theorem zBE [zai] (x:Operand) (t:TypeId):dK P T s ⟨dst,.call ⟨.builtin .len,#[x],#[t]⟩,ty,pos,af,g⟩ (kk Ke) = zc4 [s.ev x] [] (kk fun l=>zyu T s.rw t (s.ev x) (kk fun p=>Ke ⟨l,.ids []⟩ (s.put dst p))):=(rfl)
theorem zBF [zai] (x y:Operand) (ts:Array TypeId):dK P T s ⟨dst,.call ⟨.builtin .max,#[x,y],ts⟩,ty,pos,af,g⟩ (kk Ke) = zc4 [s.ev x,s.ev y] [] (kk fun l=>zcC true (s.ev x) (s.ev y) (kk fun p=>Ke ⟨l,.ids []⟩ (s.put dst p))):=(rfl)
theorem zBG [zai] (x y:Operand) (ts:Array TypeId):dK P T s ⟨dst,.call ⟨.builtin .min,#[x,y],ts⟩,ty,pos,af,g⟩ (kk Ke) = zc4 [s.ev x,s.ev y] [] (kk fun l=>zcC false (s.ev x) (s.ev y) (kk fun p=>Ke ⟨l,.ids []⟩ (s.put dst p))):=(rfl)
theorem zoS [zai] (t:TypeId) (x:Operand) (mx:Option Operand):dK P T s ⟨dst,.slice t x none none mx,ty,pos,af,g⟩ (kk Ke) = zc4 (s.ev x :: (mx.toList).map s.ev) [] (kk fun l=>zby T s.rw s.ev t (s.ev x) none none mx (kk fun p=>Ke ⟨l,.ids []⟩ (s.put dst p))):=by
 cases mx <;> rfl
theorem zoT [zai] (t:TypeId) (x lo:Operand):dK P T s ⟨dst,.slice t x (some lo) none none,ty,pos,af,g⟩ (kk Ke) = zc4 [s.ev x,s.ev lo] [] (kk fun l=>zby T s.rw s.ev t (s.ev x) (some lo) none none (kk fun p=>Ke ⟨l,.ids []⟩ (s.put dst p))):=(rfl)
def zoU (T:Tab) (s:St) (dst:Option Nat) (t:TypeId) (x hi:Operand) (r:Row) (k ver:Nat) (py:PV) (Ke:Ent→St→Prop):Prop :=
 match r.kind with
 | .sli _ _ false _=>zHS T s dst t r k ver py Ke
 | _=>zc4 [.own k ver,py] [] (kk fun l=>zby T s.rw s.ev t (.own k ver) none (some hi) none (kk fun p=>Ke ⟨l,.ids []⟩ (s.put dst p)))
def zEY (T:Tab) (s:St) (dst:Option Nat) (t:TypeId) (x hi:Operand) (px py:PV) (Ke:Ent→St→Prop):Prop :=
 match px with
 | .own k ver=>zoU T s dst t x hi (s.rw k) k ver py Ke
 | _=>zc4 [px,py] [] (kk fun l=>zby T s.rw s.ev t px none (some hi) none (kk fun p=>Ke ⟨l,.ids []⟩ (s.put dst p)))
theorem zs0 (t:TypeId) (x hi:Operand) (k ver:Nat) (py:PV):zEY T s dst t x hi (.own k ver) py (kk Ke) = zoU T s dst t x hi (s.rw k) k ver py (kk Ke):=(rfl)
theorem zw1 (t:TypeId) (x hi:Operand) (fr:Bool) (z:Nat) (c:List PV) (py:PV):zEY T s dst t x hi (.sl fr z c) py (kk Ke) = zc4 [.sl fr z c,py] [] (kk fun l=>zby T s.rw s.ev t (.sl fr z c) none (some hi) none (kk fun p=>Ke ⟨l,.ids []⟩ (s.put dst p))):=(rfl)
theorem zBH (t:TypeId) (x hi:Operand) (v:Value) (py:PV):zEY T s dst t x hi (.v v) py (kk Ke) = zc4 [.v v,py] [] (kk fun l=>zby T s.rw s.ev t (.v v) none (some hi) none (kk fun p=>Ke ⟨l,.ids []⟩ (s.put dst p))):=(rfl)
theorem zoV (t:TypeId) (x hi:Operand) (v e z:Nat) (c:List PV) (k ver:Nat) (py:PV):zoU T s dst t x hi ⟨v,.sli e z true c⟩ k ver py (kk Ke) = zc4 [.own k ver,py] [] (kk fun l=>zby T s.rw s.ev t (.own k ver) none (some hi) none (kk fun p=>Ke ⟨l,.ids []⟩ (s.put dst p))):=(rfl)
def zGb (T:Tab) (t e:TypeId):Prop:=0 < (T t).size∧(T t).k = .sli e∧0 < (T e).size∧(T e).size = 1
theorem zji (t:TypeId) (x hi:Operand) (v e:Nat) (c:List PV) (k ver d:Nat) (kd:IntKind) (m:Int):zoU T s (some d) t x hi ⟨v,.sli e 1 false c⟩ k ver (.v (.int kd m)) (kk Ke) =
 (v = ver∧zGb T t e∧0 ≤ m∧m ≤ (c.length:Int)∧Ke ⟨[],.ids [k]⟩ ((s.row k ⟨ver + 1,.sli e 1 false (c.take m.toNat)⟩).put (some d) (.own k (ver + 1)))):=by
 refine propext ⟨fun h=>?_,fun ⟨h1,⟨h2,h3,h4,h5⟩,h6,h7,h8⟩=>⟨d,e,c,kd,m,rfl,by rw [h1],h2,h3,h4,h5,rfl,h6,h7,h8⟩⟩
 obtain ⟨d',e',c',kd',m',g1,g2,g3,g4,g5,g6,g7,g8,g9,g10⟩:=h
 cases g1;cases g2;cases g7
 exact ⟨rfl,⟨g3,g4,g5,g6⟩,g8,g9,g10⟩
theorem zoW [zai] (t:TypeId) (x hi:Operand):dK P T s ⟨dst,.slice t x none (some hi) none,ty,pos,af,g⟩ (kk Ke) = zEY T s dst t x hi (s.ev x) (s.ev hi) (kk Ke):=by
 have hr:(zep T s.rw s.ev (.slice t x none (some hi) none) fun p=>Ke ⟨zmS s ⟨dst,.slice t x none (some hi) none,ty,pos,af,g⟩,.ids []⟩ (s.put dst p)) = zc4 [s.ev x,s.ev hi] [] (kk fun l=>zby T s.rw s.ev t (s.ev x) none (some hi) none (kk fun p=>Ke ⟨l,.ids []⟩ (s.put dst p))):=(rfl)
 show zFY T s ⟨dst,.slice t x none (some hi) none,ty,pos,af,g⟩ t (s.ev x) (s.ev hi) (kk Ke) = _
 cases hx:s.ev x with
 | own k ver =>
   rw [hx] at hr
   unfold zFY zEY zoU
   dsimp only
   generalize s.rw k = r
   cases r with
   | mk v kd =>
     cases kd with
     | sli e z fz c=>cases fz with
       | false=>rfl
       | true=>exact hr
     | _=>exact hr
 | _=>rw [hx] at hr;exact hr
theorem zoX [zai] (t:TypeId) (x lo hi:Operand):dK P T s ⟨dst,.slice t x (some lo) (some hi) none,ty,pos,af,g⟩ (kk Ke) = zc4 [s.ev x,s.ev lo,s.ev hi] [] (kk fun l=>zby T s.rw s.ev t (s.ev x) (some lo) (some hi) none (kk fun p=>Ke ⟨l,.ids []⟩ (s.put dst p))):=(rfl)
theorem zs1 [zai] (t:TypeId) (parts:List (Nat × Operand)):dK P T s ⟨dst,.build t ⟨parts⟩,ty,pos,af,g⟩ (kk Ke) = zc4 (evs s parts) [] (kk fun l=>zEW T s.rw (T t).k (T t).size (T t).zero (zD0 s parts) (kk fun p=>Ke ⟨l,.ids []⟩ (s.put dst p))):=by
 have e:((Op.build t ⟨parts⟩).operands.toList.map s.ev).flatMap zd7 = (evs s parts).flatMap zd7:=by
  simp [Op.operands,evs]
  rfl
 show zep T s.rw s.ev (.build t ⟨parts⟩) (fun p=>Ke ⟨((Op.build t ⟨parts⟩).operands.toList.map s.ev).flatMap zd7,.ids []⟩ (s.put dst p)) = _
 rw [e]
 exact (zBw (T:=T) (s:=s) t parts (fun p=>Ke ⟨(evs s parts).flatMap zd7,.ids []⟩ (s.put dst p)))
def zBI [zai] (P:Program) (f:FuncId) (raw:List PV) (d:Nat) (s:St) (Ke:Ent→St→Prop):Prop:=zFc P s f raw d (fun rd k s1=>Ke ⟨rd,.ids [d,k]⟩ s1)
theorem zCK [zai] {f:FuncId} {args raw lent:List PV} {k v e e2 d:Nat} {p:List Nat} {rows rows':List (List PV)} {r:RV} {Ka:RV→Prop} {us:Dm s} {u:Dm Ke} (h:AT P f args e e2 rows rows' (.rv r))
 (hg:GiveL [(k,v)] raw args) (ht:TabIs s.rw k v e e2 p rows) (hn:p.Nodup) (hd:d % 1000 ≠ k % 1000) (hk:Ke ⟨[],.ids [d,k]⟩ (zam (s.killed k p) d r)):zh4 P f lent Ka (zBI P f raw d (kk s us) (kk Ke u)) :=
 .inr (.inl ⟨k,v,e,e2,p,rows,rows',args,r,h,hg,ht,hn,hd,hk⟩)
theorem zzZ [zai] {f:FuncId} {x head out lent:List PV} {e j vj d:Nat} {ok fr:Bool} {Ka:RV→Prop} {us:Dm s} {u:Dm Ke} (h:AF P f x head e out ok) (hj:s.rw j = ⟨vj,.sli e 1 false head⟩) (hp:zb3 head) (hd:d % 1000 ≠ j % 1000) (hjl:j < 1000000)
 (hk:Ke ⟨[],.ids [d,j]⟩ (((s.row j ⟨vj + 1,.dead⟩).row d ⟨(s.rw d).ver + 1,.sli e 1 false out⟩).put (some d) (.tup [.own d ((s.rw d).ver + 1),.v (.bool ok)]))):zh4 P f lent Ka (zBI P f [.sl fr 1 x,.own j vj] d (kk s us) (kk Ke u)):=by
 have hrd:((s.row j ⟨(s.rw j).ver + 1,.dead⟩).rw d) = s.rw d:=zan _ _ fun h=>hd (by rw [h])
 have hk2:Ke ⟨[],.ids [d,j]⟩ (zam (s.killed j []) d (rvF e out ok)):=by
  rw [zB7,zl8,hrd,hj];exact hk
 exact .inr (.inr (.inl ⟨j,vj,e,x,head,out,ok,fr,h,rfl,hj,hp,hd,hjl,hk2⟩))
theorem zz0 [zai] {f:FuncId} {raw lent:List PV} {k d:Nat} {x:RV} {r:Row} {Ka:RV→Prop} {us:Dm s} {u:Dm Ke} (rd:List Nat) (h:∀ s':St,s'.rw k = s.rw k→(∀ a ∈ rd,s'.rw a = s.rw a)→∀ K':St→Prop,K' (zam (s'.row k r) d x)→askG P s' f raw (some d) K') (hd:d % 1000 ≠ k % 1000)
 (hk:Ke ⟨rd,.ids [d,k]⟩ (zam (s.row k r) d x)):zh4 P f lent Ka (zBI P f raw d (kk s us) (kk Ke u)):=.inr (.inr (.inr ⟨rd,k,x,r,h,hd,hk⟩))
theorem zw2 [zai] (d:Nat) (f:Operand) (args:List Operand) (ts:Array TypeId):dK P T s ⟨some d,.call ⟨.value f,⟨args⟩,ts⟩,ty,pos,af,g⟩ (kk Ke) =
 zeo s.rw 3 (zwL s args) [] (kk fun l=>zeo s.rw 4 [s.ev f] l (kk fun l'=>zzM (s.ev f) (kk fun g caps=>zh4 P g (zg3 s args ++ caps.map (zcl s.rw 3)) (kk fun rv=>Ke ⟨l',.res d⟩ (zam s d rv)) (zBI P g (zwL s args ++ caps) d (kk s) (kk Ke))))):=by
 simp only [zeo,zzW,List.nil_append,List.flatMap_cons,List.flatMap_nil,List.append_nil]
 show (zec P s.rw s.ev f ⟨args⟩ (fun rv=>Ke ⟨(zwL s args).flatMap (zdW s.rw 3) ++ zdW s.rw 4 (s.ev f),.res d⟩ (zam s d rv)) ∨ tdK P s f ⟨.value f,⟨args⟩,ts⟩ d Ke) = _
 unfold zec tdK zzM zh4 zBI kk
 cases s.ev f <;> first | rfl | (simp;done) | skip
theorem zhD [zai] (f:Operand) (args:List Operand) (ts:Array TypeId):dK P T s ⟨none,.call ⟨.value f,⟨args⟩,ts⟩,ty,pos,af,g⟩ (kk Ke) =
 zeo s.rw 3 (zwL s args) [] (kk fun l=>zeo s.rw 4 [s.ev f] l (kk fun l'=>zzM (s.ev f) (kk fun g caps=>zh4 P g (zg3 s args ++ caps.map (zcl s.rw 3)) (kk fun rv=>Ke ⟨l',.ids []⟩ s) False))):=by
 have e:=zzY (P:=P) (s:=s) f args (fun rv=>Ke ⟨(zwL s args).flatMap (zdW s.rw 3) ++ zdW s.rw 4 (s.ev f),.ids []⟩ s)
 simp only [zeo,zzW,List.nil_append,List.flatMap_cons,List.flatMap_nil,List.append_nil]
 exact e
theorem zoY [zai] (d:Nat) (x y:Operand) (t t2:TypeId):dK P T s ⟨some d,.call ⟨.builtin .append,#[x,y],#[t,t2]⟩,ty,pos,af,g⟩ (kk Ke) =
 zc4 [s.ev y] [] (kk fun l=>zc4 [s.ev x] [d] (kk fun l'=>opK P T s ⟨some d,.call ⟨.builtin .append,#[x,y],#[t,t2]⟩,ty,pos,af,g⟩ (Ke ⟨l,.ids l'⟩))):=by
 have e:∀ p:PV,[p].flatMap zd7 = zd7 p:=fun p=>by simp
 unfold zc4
 simp only [kk,e,List.nil_append]
 rfl
theorem zs2 [zai] (d:Nat) (t:TypeId):dK P T s ⟨some d,.alloc t,ty,pos,af,g⟩ (kk Ke) = opK P T s ⟨some d,.alloc t,ty,pos,af,g⟩ (Ke ⟨[],.ids [d]⟩):=(rfl)
theorem zBJ [zai] (d:Nat) (t:TypeId) (x:Operand):dK P T s ⟨some d,.box t x,ty,pos,af,g⟩ (kk Ke) = zc4 [s.ev x] [] (kk fun l=>opK P T s ⟨some d,.box t x,ty,pos,af,g⟩ (Ke ⟨l,.ids [d]⟩)):=by
 have e:∀ p:PV,[p].flatMap zd7 = zd7 p:=fun p=>by simp
 unfold zc4
 simp only [kk,e,List.nil_append]
 rfl
theorem zgo [zai] (d:Nat) (t:TypeId) (n:Nat) (parts:List (Nat × Operand)):dK P T s ⟨some d,.buildSlice t n ⟨parts⟩,ty,pos,af,g⟩ (kk Ke) = zc4 (evs s parts) [d] (kk fun l=>opK P T s ⟨some d,.buildSlice t n ⟨parts⟩,ty,pos,af,g⟩ (Ke ⟨[],.ids l⟩)):=(rfl)
theorem zs3 [zai] (t:TypeId) (ad x:Operand):dK P T s ⟨dst,.store t ad x,ty,pos,af,g⟩ (kk Ke) = zc4 [s.ev ad,s.ev x] [] (kk fun l=>opK P T s ⟨dst,.store t ad x,ty,pos,af,g⟩ (Ke ⟨[],.ids l⟩)):=by
 have e:[s.ev ad,s.ev x].flatMap zd7 = zd7 (s.ev ad) ++ zd7 (s.ev x):=by simp
 unfold zc4
 simp only [kk,e,List.nil_append]
 rfl
theorem zw3 [zai] (d:Nat) (t:TypeId) (l c:Operand):dK P T s ⟨some d,.makeSlice t l c,ty,pos,af,g⟩ (kk Ke) = opK P T s ⟨some d,.makeSlice t l c,ty,pos,af,g⟩ (Ke ⟨[],.ids [d]⟩):=(rfl)
end
def TK.isInt:TK→Bool | .int _=>true | _=>false
section
variable {Kp:PV→Prop} {rw:Nat→Row}
section
variable (t:TypeId) (k:IntKind) (a b:Int)
theorem zw4:zcX T .add t (.v (.int k a)) (.v (.int k b)) Kp = Kp (.v (.int k (k.wrap (a + b)))):=by simp [zcX,zbz,zb6]
theorem zw5:zcX T .sub t (.v (.int k a)) (.v (.int k b)) Kp = Kp (.v (.int k (k.wrap (a - b)))):=by simp [zcX,zbz,zb6]
theorem zw6:zcX T .mul t (.v (.int k a)) (.v (.int k b)) Kp = Kp (.v (.int k (k.wrap (a * b)))):=by simp [zcX,zbz,zb6]
theorem zw7:zcX T .quo t (.v (.int k a)) (.v (.int k b)) Kp = (b ≠ 0∧Kp (.v (.int k (k.wrap (a.tdiv b))))):=by simp [zcX,zbz,zb6]
theorem zw8:zcX T .rem t (.v (.int k a)) (.v (.int k b)) Kp = (b ≠ 0∧Kp (.v (.int k (a.tmod b)))):=by simp [zcX,zbz,zb6]
theorem zw9:zcX T .and t (.v (.int k a)) (.v (.int k b)) Kp = Kp (.v (.int k (zcZ k a b))):=by simp [zcX,zbz,zb6]
theorem zBK:zcX T .or t (.v (.int k a)) (.v (.int k b)) Kp = Kp (.v (.int k (ior k a b))):=by simp [zcX,zbz,zb6]
theorem zxa:zcX T .xor t (.v (.int k a)) (.v (.int k b)) Kp = Kp (.v (.int k (zC2 k a b))):=by simp [zcX,zbz,zb6]
theorem zlD:zcX T .andNot t (.v (.int k a)) (.v (.int k b)) Kp = Kp (.v (.int k (zhg k a b))):=by simp [zcX,zbz,zb6]
theorem zxb (k':IntKind):zcX T .shl t (.v (.int k a)) (.v (.int k' b)) Kp = (0 ≤ b∧Kp (.v (.int k (znN k a b)))):=by simp [zcX,zbz,zb6]
theorem zxc (k':IntKind):zcX T .shr t (.v (.int k a)) (.v (.int k' b)) Kp = (0 ≤ b∧Kp (.v (.int k (zrj k a b)))):=by simp [zcX,zbz,zb6]
theorem zxd:zcX T .eql t (.v (.int k a)) (.v (.int k b)) Kp = Kp (.v (.bool (a == b))):=by simp [zcX,zbz,zb6]
theorem zxe:zcX T .neq t (.v (.int k a)) (.v (.int k b)) Kp = Kp (.v (.bool (a != b))):=by simp [zcX,zbz,zb6]
theorem zxf:zcX T .lss t (.v (.int k a)) (.v (.int k b)) Kp = Kp (.v (.bool (decide (a < b)))):=by simp [zcX,zbz,zb6]
theorem zxg:zcX T .leq t (.v (.int k a)) (.v (.int k b)) Kp = Kp (.v (.bool (decide (a ≤ b)))):=by simp [zcX,zbz,zb6]
theorem zxh:zcX T .gtr t (.v (.int k a)) (.v (.int k b)) Kp = Kp (.v (.bool (decide (b < a)))):=by simp [zcX,zbz,zb6]
theorem zxi:zcX T .geq t (.v (.int k a)) (.v (.int k b)) Kp = Kp (.v (.bool (decide (b ≤ a)))):=by simp [zcX,zbz,zb6]
end
theorem zjj (t:TypeId) (a b:ByteArray):zcX T .eql t (.v (.string a)) (.v (.string b)) Kp = Kp (.v (.bool (a.toList == b.toList))):=by simp [zcX,zmm]
theorem zjk (t:TypeId) (a b:ByteArray):zcX T .neq t (.v (.string a)) (.v (.string b)) Kp = Kp (.v (.bool (!(a.toList == b.toList)))):=by simp [zcX,zmm]
theorem zjl (t:TypeId) (a b:ByteArray):zcX T .add t (.v (.string a)) (.v (.string b)) Kp = (a.size + b.size ≤ 9223372036854775807∧Kp (.v (.string (a ++ b)))):=by simp [zcX,zmm]
theorem zhE (t:TypeId) (a b:Bool):zcX T .eql t (.v (.bool a)) (.v (.bool b)) Kp = ((T t).k = .bool∧0 < (T t).size∧Kp (.v (.bool (a == b)))):=by simp [zcX]
theorem zhF (t:TypeId) (a b:Bool):zcX T .neq t (.v (.bool a)) (.v (.bool b)) Kp = ((T t).k = .bool∧0 < (T t).size∧Kp (.v (.bool (!(a == b))))):=by simp [zcX]
theorem zBL (b:Bool):unK .not (.v (.bool b)) Kp = Kp (.v (.bool !b)):=(rfl)
theorem zBM (k:IntKind) (n:Int):unK .neg (.v (.int k n)) Kp = Kp (.v (.int k (k.wrap (0 - n)))):=(rfl)
theorem zs4 (fr:Bool) (c:List PV) (off:Nat) (Km:Md→List PV→Nat→Prop):zqO rw (.eref fr c off) Km = Km (.set fr) c off:=(rfl)
def zjm (r:Row) (ver off:Nat) (Km:Md→List PV→Nat→Prop):Prop:=r.ver = ver∧match r.kind with | .box _ c=>Km .asis c off | .sli _ _ _ c=>Km (.set true) c off | .tab _ c=>Km .asis c off | _=>False
theorem zxj (j ver off:Nat) (Km:Md→List PV→Nat→Prop):zqO rw (.ref j ver off) Km = zjm (rw j) ver off Km:=(rfl)
theorem zlE (ver off:Nat) (bt:TypeId) (c:List PV) (Km:Md→List PV→Nat→Prop):zjm ⟨ver,.box bt c⟩ ver off Km = Km .asis c off:=by simp [zjm]
theorem zlF (ver off e:Nat) (c:List PV) (Km:Md→List PV→Nat→Prop):zjm ⟨ver,.tab e c⟩ ver off Km = Km .asis c off:=by simp [zjm]
theorem zlG (ver off e sz:Nat) (fz:Bool) (c:List PV) (Km:Md→List PV→Nat→Prop):zjm ⟨ver,.sli e sz fz c⟩ ver off Km = Km (.set true) c off:=by simp [zjm]
def zhG (r:Row) (ver:Nat) (K:PV→Prop):Prop:=r.ver = ver∧match r.kind with | .nil=>K (.v (.int .i64 0)) | .sli _ sz _ c=>0 < sz∧K (.v (.int .i64 ((c.length / sz:Nat):Int))) | .tab _ c=>K (.v (.int .i64 (c.length:Int))) | _=>False
def zCL (rw:Nat→Row) (k:TK) (z:Nat) (x:PV) (K:PV→Prop):Prop :=
 0 < z∧match k with
 | .str=>(match x with | .v (.string s)=>K (.v (.int .i64 s.size)) | _=>False)
 | .sli _=>zvU rw x fun sz n=>0 < sz∧K (.v (.int .i64 ((n / sz:Nat):Int)))
 | .arr n _=>K (.v (.int .i64 n))
 | _=>False
theorem zBN (t:TypeId) (x:PV):zyu T rw t x Kp = zCL rw (T t).k (T t).size x Kp:=(rfl)
theorem zxk (b:ByteArray):zCL rw .str 1 (.v (.string b)) Kp = Kp (.v (.int .i64 b.size)):=by simp [zCL]
theorem zBO (e:TypeId) (fr:Bool) (c:List PV):zCL rw (.sli e) 1 (.sl fr 1 c) Kp = Kp (.v (.int .i64 (c.length:Int))):=by simp [zCL,zvU]
theorem zxl (e:TypeId) (j ver:Nat):zCL rw (.sli e) 1 (.own j ver) Kp = zhG (rw j) ver Kp:=by
 simp only [zCL,zvU,zhG,true_and,Nat.one_pos]
 cases (rw j).kind <;> simp
theorem zlH (ver e:Nat) (fz:Bool) (c:List PV):zhG ⟨ver,.sli e 1 fz c⟩ ver Kp = Kp (.v (.int .i64 (c.length:Int))):=by simp [zhG]
theorem zlI (ver e:Nat) (c:List PV):zhG ⟨ver,.tab e c⟩ ver Kp = Kp (.v (.int .i64 (c.length:Int))):=by simp [zhG]
theorem zlJ (ver:Nat):zhG ⟨ver,.nil⟩ ver Kp = Kp (.v (.int .i64 0)):=by simp [zhG]
def iaD (T:Tab) (rw:Nat→Row) (kd:TK) (z:Nat) (x i:PV) (K:PV→Prop):Prop :=
 match i with
 | .v (.int _ n) =>
   0 < z∧match kd with
   | .sli e =>
     (match x with
     | .sl fr sz c=>0 < (T e).size∧sz = (T e).size∧0 ≤ n∧n.toNat * sz < c.length∧K (.eref fr c (n.toNat * sz))
     | .own k ver=>(rw k).ver = ver∧match (rw k).kind with | .sli _ sz _ c=>0 < (T e).size∧sz = (T e).size∧0 ≤ n∧n.toNat * sz < c.length∧K (.ref k ver (n.toNat * sz)) | .tab _ c=>(T e).size = 1∧0 ≤ n∧n.toNat < c.length∧K (.ref k ver n.toNat) | _=>False
     | _=>False)
   | .arr len e=>zj2 x = true∧0 < (T e).size∧0 ≤ n∧n < len∧zdm rw x (K (zdY x (n.toNat * (T e).size)))
   | _=>False
 | _=>False
theorem zEZ (t:TypeId) (x i:PV):zbo T rw t x i Kp = iaD T rw (T t).k (T t).size x i Kp:=(rfl)
theorem zE0 {e:TypeId} {k:IntKind} (fr:Bool) (c:List PV) (n:Int) (h2:(T e).size = 1) :
 iaD T rw (.sli e) 1 (.sl fr 1 c) (.v (.int k n)) Kp = (0 ≤ n∧n < (c.length:Int)∧Kp (.eref fr c n.toNat)):=by
 simp only [iaD,h2,Nat.mul_one,true_and,Nat.one_pos]
 refine propext ⟨fun ⟨a,b,c⟩=>⟨a,by omega,c⟩,fun ⟨a,b,c⟩=>⟨a,by omega,c⟩⟩
def zuO (r:Row) (j ver:Nat) (n:Int) (K:PV→Prop):Prop:=r.ver = ver∧match r.kind with | .sli _ sz _ c=>sz = 1∧0 ≤ n∧n < (c.length:Int)∧K (.ref j ver n.toNat) | .tab _ c=>0 ≤ n∧n < (c.length:Int)∧K (.ref j ver n.toNat) | _=>False
theorem zBP {e:TypeId} {k:IntKind} (j ver:Nat) (n:Int) (h2:(T e).size = 1) :
 iaD T rw (.sli e) 1 (.own j ver) (.v (.int k n)) Kp = zuO (rw j) j ver n Kp:=by
 simp only [iaD,h2,zuO,true_and,Nat.one_pos]
 cases (rw j).kind <;> simp
 ·rintro _ rfl h
  rw [Nat.mul_one]
  exact ⟨fun ⟨a,b⟩=>⟨by omega,b⟩,fun ⟨a,b⟩=>⟨by omega,b⟩⟩
 ·intros;omega
theorem zxm {e:TypeId} {k:IntKind} (len z j ver off:Nat) (n:Int) (h2:(T e).size = 1):iaD T rw (.arr len e) (z + 1) (.ref j ver off) (.v (.int k n)) Kp = (0 ≤ n∧n < (len:Int)∧zdm rw (.ref j ver off) (kk (Kp (.ref j ver (off + n.toNat))))):=by
 simp only [iaD,h2,Nat.mul_one,Nat.zero_lt_succ,Nat.one_pos,true_and,zj2,zdY,kk]
theorem zBQ [zai] {e:TypeId} {k:IntKind} (len z j ver off:Nat) (n:Int) (h2:(T e).size = 1):iaD T rw (.arr len e) (z + 1) (.ref j ver (off + 1)) (.v (.int k n)) Kp = (0 ≤ n∧n < (len:Int)∧zdm rw (.ref j ver (off + 1)) (kk (Kp (.ref j ver (off + 1 + n.toNat))))):=zxm _ _ _ _ _ _ h2
theorem zxn [zai] {e:TypeId} {k:IntKind} (len z j ver:Nat) (n:Int) (h2:(T e).size = 1):iaD T rw (.arr len e) (z + 1) (.ref j ver 0) (.v (.int k n)) Kp = (0 ≤ n∧n < (len:Int)∧zdm rw (.ref j ver 0) (kk (Kp (.ref j ver n.toNat)))):=by
 rw [zxm _ _ _ _ _ _ h2,Nat.zero_add]
theorem zoZ (j ver e:Nat) (c:List PV) (n:Int):zuO ⟨ver,.tab e c⟩ j ver n Kp = (0 ≤ n∧n < (c.length:Int)∧Kp (.ref j ver n.toNat)):=by simp [zuO]
theorem zo0 (j ver e:Nat) (fz:Bool) (c:List PV) (n:Int):zuO ⟨ver,.sli e 1 fz c⟩ j ver n Kp = (0 ≤ n∧n < (c.length:Int)∧Kp (.ref j ver n.toNat)):=by simp [zuO]
theorem zex {α:Type} (f:α→PV) (d:α) (xs:List α) {t:TypeId} {m:Md} (o:Nat) (g:α→PV) (hg:∀ x,m.fix (f x) = g x) (h0:(T t).k.agg = false) (h1:0 < (T t).size) :
 ldK T t m (xs.map f) o Kp = (o < xs.length∧Kp (g (xs.getD o d))):=by
 simp only [ldK,h0,h1,true_and,List.length_map]
 refine propext ⟨fun ⟨a,b⟩=>⟨a,?_⟩,fun ⟨a,b⟩=>⟨a,?_⟩⟩
 ·have e:(xs.map f).getD o .junk = f xs[o]:=by simp [List.getD,a]
  have e2:xs.getD o d = xs[o]:=by simp [List.getD,a]
  rw [e,hg] at b
  rw [e2]
  exact b
 ·have e:(xs.map f).getD o .junk = f xs[o]:=by simp [List.getD,a]
  have e2:xs.getD o d = xs[o]:=by simp [List.getD,a]
  rw [e,hg]
  rw [e2] at b
  exact b
theorem zuP (m:Md) (v:Value):m.fix (.v v) = .v v:=by cases m <;> rfl
theorem zBR (fr f:Bool) (sz:Nat) (c:List PV):(Md.set fr).fix (.sl f sz c) = .sl fr sz c:=(rfl)
theorem zs5 (p:PV):Md.asis.fix p = p:=(rfl)
theorem zE1 [zai] (xs:List Int) {t:TypeId} {m:Md} (o:Nat) (h0:(T t).k.agg = false) (h1:0 < (T t).size):ldK T t m (iL xs) o Kp = (o < xs.length∧Kp (.v (.int .i64 (xs.getD o 0)))) :=
 zex _ 0 xs o _ (fun x=>zuP m _) h0 h1
theorem zE2 [zai] (k:IntKind) (xs:List Int) {t:TypeId} {m:Md} (o:Nat) (h0:(T t).k.agg = false) (h1:0 < (T t).size):ldK T t m (kL k xs) o Kp = (o < xs.length∧Kp (.v (.int k (xs.getD o 0)))) :=
 zex _ 0 xs o _ (fun x=>zuP m _) h0 h1
theorem zE3 [zai] (xs:List Bool) {t:TypeId} {m:Md} (o:Nat) (h0:(T t).k.agg = false) (h1:0 < (T t).size):ldK T t m (bL xs) o Kp = (o < xs.length∧Kp (.v (.bool (xs.getD o false)))) :=
 zex _ false xs o _ (fun x=>zuP m _) h0 h1
theorem zE4 [zai] (xs:List ByteArray) {t:TypeId} {m:Md} (o:Nat) (h0:(T t).k.agg = false) (h1:0 < (T t).size):ldK T t m (sL xs) o Kp = (o < xs.length∧Kp (.v (.string (xs.getD o ⟨#[]⟩)))) :=
 zex (fun n=>PV.v (.string n)) ⟨#[]⟩ xs o (fun n=>PV.v (.string n)) (fun x=>zuP m _) h0 h1
theorem zBS [zai] (xs:List (List Int)) {t:TypeId} {fr:Bool} (o:Nat) (h0:(T t).k.agg = false) (h1:0 < (T t).size):ldK T t (.set fr) (iLL xs) o Kp = (o < xs.length∧Kp (.sl fr 1 (iL (xs.getD o [])))) :=
 zex _ [] xs o (fun r=>.sl fr 1 (iL r)) (fun x=>rfl) h0 h1
theorem zE5 {t:TypeId} {m:Md} (p:PV) (c:List PV) (h0:(T t).k.agg = false) (h1:0 < (T t).size):ldK T t m (p :: c) 0 Kp = evK (m.fix p) Kp:=by simp [ldK,h0,h1,evK]
theorem zE6 {t:TypeId} {m:Md} (p q:PV) (c:List PV) (h0:(T t).k.agg = false) (h1:0 < (T t).size):ldK T t m (p :: q :: c) 1 Kp = evK (m.fix q) Kp:=by simp [ldK,h0,h1,evK]
theorem zE7 {t:TypeId} {m:Md} (p q r:PV) (c:List PV) (h0:(T t).k.agg = false) (h1:0 < (T t).size):ldK T t m (p :: q :: r :: c) 2 Kp = evK (m.fix r) Kp:=by simp [ldK,h0,h1,evK]
theorem zE8 {t:TypeId} {m:Md} (p q r s:PV) (c:List PV) (h0:(T t).k.agg = false) (h1:0 < (T t).size):ldK T t m (p :: q :: r :: s :: c) 3 Kp = evK (m.fix s) Kp:=by simp [ldK,h0,h1,evK]
theorem zxo {t:TypeId} {m:Md} (p:PV) (c0:List PV) (o:Nat) (h0:(T t).k.agg = true) (h1:0 < (T t).size):ldK T t m (p :: c0) o Kp = (o + (T t).size ≤ (p :: c0).length∧evK (.ag ((((p :: c0).drop o).take (T t).size).map m.fix)) Kp):=by simp [ldK,h0,h1,evK]
def zs6 (T:Tab) (kd:TK) (z:Nat) (f:Nat) (K:Nat→TypeId→Prop):Prop :=
 0 < z∧match kd with | .struct fs=>(match fs[f]? with | some (o,ft)=>0 < (T ft).size∧K o ft | none=>False) | _=>False
def zE9 (T:Tab) (x:Option (Nat × TypeId)) (K:Nat→TypeId→Prop):Prop:=match x with | some (o,ft)=>0 < (T ft).size∧K o ft | none=>False
theorem zs7 (t:TypeId) (f:Nat) (Kf:Nat→TypeId→Prop):zdE T t f Kf = zs6 T (T t).k (T t).size f Kf:=(rfl)
theorem zey (fs:List (Nat × TypeId)) (z f:Nat) (Kf:Nat→TypeId→Prop):zs6 T (.struct fs) (z + 1) f Kf = zE9 T fs[f]? Kf:=by simp only [zs6,zE9,Nat.zero_lt_succ,true_and]
theorem zo1 (o:Nat) (ft:TypeId) (Kf:Nat→TypeId→Prop) (h:0 < (T ft).size):zE9 T (some (o,ft)) Kf = Kf o ft:=by simp [zE9,h]
theorem zgp [zai] (fs:List (Nat × TypeId)) (f:Nat) (Kf:Nat→TypeId→Prop):zs6 T (.struct fs) 2 f Kf = zE9 T fs[f]? Kf:=zey fs 1 f Kf
theorem zo2 (fr:Bool) (c:List PV) (o:Nat) (A:Prop):zdm rw (.eref fr c o) (kk A) = A:=(rfl)
theorem zs8 (f:FuncId) (c:List PV) (A:Prop):zdm rw (.clo f c) (kk A) = A:=(rfl)
def zg5 (r:Row) (ver:Nat) (A:Prop):Prop:=r.ver = ver∧r.kind.nd = true∧A
theorem zs9 (j ver o:Nat) (A:Prop):zdm rw (.ref j ver o) A = zg5 (rw j) ver A:=(rfl)
theorem zjn (ver:Nat) (bt:TypeId) (c:List PV) (A:Prop):zg5 ⟨ver,.box bt c⟩ ver (kk A) = A:=by simp [zg5,RK.nd,kk]
theorem zo3 (j v o:Nat):zj2 (.ref j v o) = true:=(rfl)
theorem zlK (fr:Bool) (c:List PV) (o:Nat):zj2 (.eref fr c o) = true:=(rfl)
theorem zo4 (j v o d:Nat):zdY (.ref j v o) d = .ref j v (o + d):=(rfl)
theorem zlL (fr:Bool) (c:List PV) (o d:Nat):zdY (.eref fr c o) d = .eref fr c (o + d):=(rfl)
def zCM (kd kd2:TK) (x:PV) (K:PV→Prop):Prop:=match kd,kd2,x with
 | .int _,.int k,.v (.int _ n)=>K (.v (.int k (k.wrap n)))
 | .str,.str,.v (.string s)=>K (.v (.string s))
 | _,_,_=>False
theorem zta {a b:TypeId} {k:IntKind} (n:Int) (h1:(T a).k.isInt = true) (h2:(T b).k.isInt = true) (h3:0 < (T a).size) (h4:0 < (T b).size):zfj T rw a b (.v (.int k n)) Kp = zCM (T a).k (T b).k (.v (.int k n)) Kp:=by
 revert h1 h2
 simp only [zfj,zCM,h3,h4,true_and]
 cases (T a).k <;> simp [TK.isInt]
 cases (T b).k <;> simp [TK.isInt]
theorem zo5 (k1 k2 k:IntKind) (n:Int):zCM (.int k1) (.int k2) (.v (.int k n)) Kp = Kp (.v (.int k2 (k2.wrap n))):=(rfl)
theorem ztb {a b:TypeId} (n:ByteArray) (h1:(T a).k = .str) (h2:(T b).k = .str) (h3:0 < (T a).size) (h4:0 < (T b).size):zfj T rw a b (.v (.string n)) Kp = Kp (.v (.string n)):=by
 simp [zfj,h1,h2,h3,h4]
theorem zo6 {t:TypeId} {k:IntKind} (b:ByteArray) (n:Int) (h0:(T t).k = .str) (h1:0 < (T t).size):zsG T t (.v (.string b)) (.v (.int k n)) Kp = (0 ≤ n∧n.toNat < b.size∧Kp (.v (.int .u8 ((b.data.toList.getD n.toNat 0).toNat:Int)))):=by
 simp [zsG,h0,h1]
theorem zlM (k k':IntKind) (a b:Int):zcC true (.v (.int k a)) (.v (.int k' b)) Kp = Kp (.v (.int k (if b > a then b else a))):=(rfl)
theorem zlN (k k':IntKind) (a b:Int):zcC false (.v (.int k a)) (.v (.int k' b)) Kp = Kp (.v (.int k (if b < a then b else a))):=(rfl)
def zqW (p:PV) (K:Int→Prop):Prop:=match p with | .v (.int _ n)=>K n | _=>False
theorem ztc (k:IntKind) (n:Int) (Ki:Int→Prop):zqW (.v (.int k n)) Ki = Ki n:=(rfl)
def zmM (T:Tab) (rw:Nat→Row) (ev:Operand→PV) (kd:TK) (z:Nat) (x:PV) (lo hi mx:Option Operand) (K:PV→Prop):Prop :=
 0 < z∧match kd with
 | .str=>mx = none∧(match x with
  | .v (.string s)=>zkJ ev lo 0 fun l=>zkJ ev hi s.size fun h=>0 ≤ l∧l ≤ h∧h ≤ s.size∧K (.v (.string (s.extract l.toNat h.toNat)))
  | _=>False)
 | .sli e=>zfK rw x fun fr sz c=>0 < (T e).size∧sz = (T e).size ∧
  zkJ ev lo 0 fun l=>zkJ ev hi ((c.length / sz:Nat):Int) fun h=>zkJ ev mx ((c.length / sz:Nat):Int) fun m=>0 ≤ l∧l ≤ h∧h ≤ m∧m ≤ ((c.length / sz:Nat):Int)∧(hi = none→mx = none) ∧
   K (.sl fr sz ((c.take (h.toNat * sz)).drop (l.toNat * sz)))
 | _=>False
theorem zBT (t:TypeId) (ev:Operand→PV) (x:PV) (lo hi mx:Option Operand):zby T rw ev t x lo hi mx Kp = zmM T rw ev (T t).k (T t).size x lo hi mx Kp:=(rfl)
theorem ztd {e:TypeId} (fr:Bool) (c:List PV) (x:Operand) (h2:(T e).size = 1):zmM T rw s.ev (.sli e) 1 (.sl fr 1 c) (some x) none none Kp = zqW (s.ev x) (kk fun l=>0 ≤ l∧l ≤ (c.length:Int)∧Kp (.sl fr 1 (c.drop l.toNat))):=by
 simp only [zmM,zfK,zkJ,h2,zqW,kk]
 cases s.ev x <;> simp
 rename_i v
 cases v <;> simp
theorem zte {e:TypeId} (fr:Bool) (c:List PV) (x:Operand) (h2:(T e).size = 1):zmM T rw s.ev (.sli e) 1 (.sl fr 1 c) none (some x) none Kp = zqW (s.ev x) (kk fun l=>0 ≤ l∧l ≤ (c.length:Int)∧Kp (.sl fr 1 (c.take l.toNat))):=by
 simp only [zmM,zfK,zkJ,h2,zqW,kk]
 cases s.ev x <;> simp
 rename_i v
 cases v <;> simp
theorem ztf {e:TypeId} (fr:Bool) (c:List PV) (x y:Operand) (h2:(T e).size = 1):zmM T rw s.ev (.sli e) 1 (.sl fr 1 c) (some x) (some y) none Kp = zqW (s.ev x) (kk fun l=>zqW (s.ev y) (kk fun h=>0 ≤ l∧l ≤ h∧h ≤ (c.length:Int)∧Kp (.sl fr 1 ((c.take h.toNat).drop l.toNat)))):=by
 simp only [zmM,zfK,zkJ,h2,zqW,kk]
 cases s.ev x <;> simp
 rename_i v
 cases v <;> simp
 rename_i q n
 cases s.ev y <;> try simp
 rename_i v
 cases v <;> try simp
theorem zxp {e:TypeId} (fr:Bool) (c:List PV) (h2:(T e).size = 1):zmM T rw s.ev (.sli e) 1 (.sl fr 1 c) none none none Kp = Kp (.sl fr 1 c):=by
 simp only [zmM,zfK,zkJ,h2]
 simp
theorem ztg (b:ByteArray) (x:Operand):zmM T rw s.ev .str 1 (.v (.string b)) (some x) none none Kp = zqW (s.ev x) (kk fun l=>0 ≤ l∧l ≤ (b.size:Int)∧Kp (.v (.string (b.extract l.toNat b.size)))):=by
 simp only [zmM,zkJ,zqW,kk]
 cases s.ev x <;> simp
 rename_i v
 cases v <;> simp
theorem zth (b:ByteArray) (x:Operand):zmM T rw s.ev .str 1 (.v (.string b)) none (some x) none Kp = zqW (s.ev x) (kk fun h=>0 ≤ h∧h ≤ (b.size:Int)∧Kp (.v (.string (b.extract 0 h.toNat)))):=by
 simp only [zmM,zkJ,zqW,kk]
 cases s.ev x <;> simp
 rename_i v
 cases v <;> simp
theorem zti (b:ByteArray) (x y:Operand):zmM T rw s.ev .str 1 (.v (.string b)) (some x) (some y) none Kp = zqW (s.ev x) (kk fun l=>zqW (s.ev y) (kk fun h=>0 ≤ l∧l ≤ h∧h ≤ (b.size:Int)∧Kp (.v (.string (b.extract l.toNat h.toNat))))):=by
 simp only [zmM,zkJ,zqW,kk]
 cases s.ev x <;> simp
 rename_i v
 cases v <;> simp
 rename_i q n
 cases s.ev y <;> try simp
 rename_i v
 cases v <;> try simp
def ztj (T:Tab) (r:Row) (k ver:Nat) (ev:Operand→PV) (e z:Nat) (rw:Nat→Row) (lo hi mx:Option Operand) (K:PV→Prop):Prop :=
 k < 1000000∧r.ver = ver∧match r.kind with | .sli _ sz true c=>zmM T rw ev (.sli e) z (.sl true sz c) lo hi mx K | _=>False
theorem zxq (e z k ver:Nat) (lo hi mx:Option Operand):zmM T rw s.ev (.sli e) z (.own k ver) lo hi mx Kp = ztj T (rw k) k ver s.ev e z rw lo hi mx Kp:=by
 have el:(k < lent) = (k < 1000000):=rfl
 simp only [zmM,zfK,ztj,el]
 cases (rw k).kind with
 | sli e' sz fz c =>
   cases fz <;> simp
   refine ⟨fun ⟨a,b,c,d,h⟩=>⟨b,c,a,d,h⟩,fun ⟨b,c,a,d,h⟩=>⟨a,b,c,d,h⟩⟩
 | _=>simp
theorem zlO (e z k ver e' sz:Nat) (rw':Nat→Row) (c:List PV) (lo hi mx:Option Operand):ztj T ⟨ver,.sli e' sz true c⟩ k ver s.ev e z rw' lo hi mx Kp = (k < 1000000∧zmM T rw' s.ev (.sli e) z (.sl true sz c) lo hi mx Kp):=by simp [ztj]
theorem zxr {Kf:List Nat→PV→Prop} (t:TypeId) (fr:Bool) (z:Nat) (c:List PV) (lo hi mx:Option Operand):zDZ T s t (.sl fr z c) lo hi mx (kk Kf) = zby T s.rw s.ev t (.sl fr z c) lo hi mx (kk fun p=>Kf [] p):=(rfl)
theorem zBU {Kf:List Nat→PV→Prop} (t:TypeId) (x:Value) (lo hi mx:Option Operand):zDZ T s t (.v x) lo hi mx (kk Kf) = zby T s.rw s.ev t (.v x) lo hi mx (kk fun p=>Kf [] p):=(rfl)
def zxs (T:Tab) (s:St) (t:TypeId) (r:Row) (k ver:Nat) (lo hi mx:Option Operand) (K:List Nat→PV→Prop):Prop :=
 match r.kind with
 | .sli _ _ false _=>zby T (s.freeze [k]).rw s.ev t (.own k ver) lo hi mx (kk fun p=>K [k] p)
 | _=>zby T s.rw s.ev t (.own k ver) lo hi mx (kk fun p=>K [] p)
theorem ztk {Kf:List Nat→PV→Prop} (t:TypeId) (k ver:Nat) (lo hi mx:Option Operand):zDZ T s t (.own k ver) lo hi mx (kk Kf) = zxs T s t (s.rw k) k ver lo hi mx (kk Kf):=(rfl)
theorem zjo {Kf:List Nat→PV→Prop} (t:TypeId) (v e z:Nat) (c:List PV) (k ver:Nat) (lo hi mx:Option Operand):zxs T s t ⟨v,.sli e z false c⟩ k ver lo hi mx (kk Kf) = zby T (s.freeze [k]).rw s.ev t (.own k ver) lo hi mx (kk fun p=>Kf [k] p):=(rfl)
theorem zo7 {Kf:List Nat→PV→Prop} (t:TypeId) (v e z:Nat) (c:List PV) (k ver:Nat) (lo hi mx:Option Operand):zxs T s t ⟨v,.sli e z true c⟩ k ver lo hi mx (kk Kf) = zby T s.rw s.ev t (.own k ver) lo hi mx (kk fun p=>Kf [] p):=(rfl)
theorem zxt {Kc:List PV→Prop} (x:Value) (h:x.oneCell' = true):zaU rw (.v x) Kc = Kc [.v x]:=by simp [zaU,h]
theorem ztl {Kc:List PV→Prop} (c:List PV):zaU rw (.ag c) Kc = Kc c:=(rfl)
theorem ztm {Kc:List PV→Prop} (fr:Bool) (sz:Nat) (c:List PV):zaU rw (.sl fr sz c) Kc = Kc [.sl fr sz c]:=(rfl)
theorem zo8 {Kc:List PV→Prop} (f:FuncId) (c:List PV):zaU rw (.clo f c) Kc = Kc [.clo f c]:=(rfl)
def zjp (r:Row) (ver:Nat) (A:Prop):Prop:=r.ver = ver∧r.kind.slice = true∧A
theorem zo9 {Kc:List PV→Prop} (j ver:Nat):zaU rw (.own j ver) Kc = zjp (rw j) ver (kk (Kc [.own j ver])):=(rfl)
theorem zlP (ver e sz:Nat) (fz:Bool) (c:List PV) (A:Prop):zjp ⟨ver,.sli e sz fz c⟩ ver (kk A) = A:=by simp [zjp,RK.slice,kk]
theorem zlQ (ver e:Nat) (c:List PV) (A:Prop):zjp ⟨ver,.tab e c⟩ ver (kk A) = A:=by simp [zjp,RK.slice,kk]
theorem zpa {Kc:List PV→Prop} (j ver o:Nat):zaU rw (.ref j ver o) Kc = zg5 (rw j) ver (kk (Kc [.ref j ver o])):=(rfl)
theorem zBV {Kc:List PV→List Nat→Prop} (x:Value) (h:x.oneCell' = true):zcQ rw (.v x) Kc = Kc [.v x] []:=by simp [zcQ,h]
theorem zxu {Kc:List PV→List Nat→Prop} (sz:Nat) (c:List PV):zcQ rw (.sl true sz c) Kc = Kc [.sl false sz c] []:=by simp [zcQ]
theorem zxv {Kc:List PV→List Nat→Prop} (c:List PV):zcQ rw (.ag c) Kc = ((∀ x ∈ c,isV x = true)∧Kc c []):=(rfl)
def zqX (r:Row) (k ver:Nat) (K:List PV→List Nat→Prop):Prop:=r.ver = ver∧k < lent∧(match r.kind with | .nil=>K [.sl false 1 []] [] | .sli _ sz _ c=>K [.sl false sz c] [k] | _=>False)
theorem ztn {Kc:List PV→List Nat→Prop} (j ver:Nat):zcQ rw (.own j ver) Kc = zqX (rw j) j ver Kc:=(rfl)
theorem zjq {Kc:List PV→List Nat→Prop} (j ver e sz:Nat) (fz:Bool) (c:List PV) (h:j < lent):zqX ⟨ver,.sli e sz fz c⟩ j ver Kc = Kc [.sl false sz c] [j]:=by simp [zqX,h]
def zto (rw:Nat→Row) (l:List PV):Prop:=∀ p ∈ l,zkI rw p
theorem zxw (rw:Nat→Row) (l:List PV):(∀ p ∈ l,zkI rw p) = zto rw l:=(rfl)
theorem ztp (rw:Nat→Row):zto rw [] = True:=by simp [zto]
theorem zpb (rw:Nat→Row) (p:PV) (l:List PV):zto rw (p :: l) = (zkI rw p∧zto rw l):=by simp [zto]
def zez (s:St) (z j ver off:Nat) (r:Row) (x:PV) (K:St→Prop):Prop:=0 < z∧r.ver = ver∧match r.kind with
 | .box bt c=>zaU s.rw x fun new=>new.length = z∧off + new.length ≤ c.length∧zto s.rw new∧K (s.row j ⟨ver,.box bt (spl c off new)⟩)
 | .sli e sz false c=>zcQ s.rw x fun new fz=>new.length = z∧off + new.length ≤ c.length∧j ∉ fz∧K ((s.freeze fz).row j ⟨ver,.sli e sz false (spl c off new)⟩)
 | .tab e c=>zaU s.rw x fun new=>new.length = z∧off + new.length ≤ c.length∧zto s.rw new∧K (s.row j ⟨ver,.tab e (spl c off new)⟩)
 | _=>False
theorem zpc (j ver off e:Nat) (c:List PV) (x:PV):zez s 1 j ver off ⟨ver,.tab e c⟩ x K = zaU s.rw x (kk fun new=>new.length = 1∧off + new.length ≤ c.length∧zto s.rw new∧K (s.row j ⟨ver,.tab e (spl c off new)⟩)):=by
 simp only [zez,Nat.one_pos,true_and,kk]
theorem ztq (t:TypeId) (j ver off:Nat) (x:PV):zp2 T s t (.ref j ver off) x K = zez s (T t).size j ver off (s.rw j) x K:=(rfl)
theorem zjr [zai]:s.freeze [] = s:=St.freeze_nil s
theorem zpd (j ver off e sz:Nat) (c:List PV) (x:PV):zez s 1 j ver off ⟨ver,.sli e sz false c⟩ x K = zcQ s.rw x (kk fun new fz=>new.length = 1∧off + new.length ≤ c.length∧j ∉ fz∧K ((s.freeze fz).row j ⟨ver,.sli e sz false (spl c off new)⟩)):=by
 simp only [zez,Nat.one_pos,true_and,kk]
theorem zgq (z j ver off:Nat) (bt:TypeId) (c:List PV) (x:PV):zez s (z + 1) j ver off ⟨ver,.box bt c⟩ x K = zaU s.rw x (kk fun new=>new.length = z + 1∧off + new.length ≤ c.length∧zto s.rw new∧K (s.row j ⟨ver,.box bt (spl c off new)⟩)):=by
 simp only [zez,Nat.zero_lt_succ,true_and,kk]
theorem zlR [zai] (j ver off:Nat) (bt:TypeId) (c:List PV) (x:PV):zez s 1 j ver off ⟨ver,.box bt c⟩ x K = zaU s.rw x (kk fun new=>new.length = 1∧off + new.length ≤ c.length∧zto s.rw new∧K (s.row j ⟨ver,.box bt (spl c off new)⟩)):=zgq 0 j ver off bt c x
theorem zlS [zai] (j ver off:Nat) (bt:TypeId) (c:List PV) (x:PV):zez s 2 j ver off ⟨ver,.box bt c⟩ x K = zaU s.rw x (kk fun new=>new.length = 2∧off + new.length ≤ c.length∧zto s.rw new∧K (s.row j ⟨ver,.box bt (spl c off new)⟩)):=zgq 1 j ver off bt c x
theorem zBW (rw:Nat→Row) (v:Value):zkI rw (.v v) = (v.oneCell' = true):=(rfl)
theorem zxx (rw:Nat→Row) (fr:Bool) (z:Nat) (c:List PV):zkI rw (.sl fr z c) = True:=(rfl)
theorem zpe (rw:Nat→Row) (fr:Bool) (c:List PV) (o:Nat):zkI rw (.eref fr c o) = True:=(rfl)
theorem ztr (rw:Nat→Row) (f:FuncId) (c:List PV):zkI rw (.clo f c) = True:=(rfl)
theorem zts (rw:Nat→Row) (j v:Nat):zkI rw (.own j v) = zjp (rw j) v (kk True):=by simp [zkI,zjp,kk]
theorem ztt (rw:Nat→Row) (j v o:Nat):zkI rw (.ref j v o) = zg5 (rw j) v (kk True):=by simp [zkI,zg5,kk]
theorem zlT [zai] (j ver off:Nat) (bt:TypeId) (c:List PV) (x:PV):zez s 3 j ver off ⟨ver,.box bt c⟩ x K = zaU s.rw x (kk fun new=>new.length = 3∧off + new.length ≤ c.length∧zto s.rw new∧K (s.row j ⟨ver,.box bt (spl c off new)⟩)):=zgq 2 j ver off bt c x
theorem zlU [zai] (j ver off:Nat) (bt:TypeId) (c:List PV) (x:PV):zez s 4 j ver off ⟨ver,.box bt c⟩ x K = zaU s.rw x (kk fun new=>new.length = 4∧off + new.length ≤ c.length∧zto s.rw new∧K (s.row j ⟨ver,.box bt (spl c off new)⟩)):=zgq 3 j ver off bt c x
def zjs (T:Tab) (rw:Nat→Row) (y:PV) (K:List PV→Prop):Prop:=slK rw y fun fr sz news=>sz = 1∧((∀ p ∈ news,isV p = true) ∨ (fr = true∧∀ p ∈ news,zqN p = true))∧K news
def zjt (T:Tab) (s:St) (d j ver e:Nat) (r:Row) (news:List PV) (K:St→Prop):Prop:=r.ver = ver∧match r.kind with
 | .nil=>news.length * (T e).bytes ≤ 140737488355328∧K (zc8 s d j (.sli e 1 false news))
 | .sli e' sz' false c=>e' = e∧sz' = 1∧(c.length + news.length) * (T e).bytes ≤ 140737488355328∧K (zc8 s d j (.sli e 1 false (c ++ news)))
 | _=>False
def zFa (T:Tab) (s:St) (d e:Nat) (x:PV) (news:List PV) (K:St→Prop):Prop:=match x with
 | .v u=>zdI u = true∧news.length * (T e).bytes ≤ 140737488355328∧K (zcR s d (.sli e 1 false news) (fun v=>.own d v))
 | .own j ver=>zjt T s d j ver e (s.rw j) news K
 | _=>False
def zGc (T:Tab) (s:St) (d:Nat) (kd:TK) (z:Nat) (x y:PV) (K:St→Prop):Prop :=
 0 < z∧match kd with
 | .sli e=>0 < (T e).size∧0 < (T e).bytes∧slK s.rw y fun fr sz news=>sz = (T e).size∧((∀ p ∈ news,isV p = true) ∨ (fr = true∧∀ p ∈ news,zqN p = true)) ∧
  (match x with
  | .v u=>zdI u = true∧news.length * (T e).bytes ≤ 140737488355328∧K (zcR s d (.sli e (T e).size false news) (fun v=>.own d v))
  | .own k ver=>(s.rw k).ver = ver∧(match (s.rw k).kind with
   | .nil=>news.length * (T e).bytes ≤ 140737488355328∧K (zc8 s d k (.sli e (T e).size false news))
   | .sli e' sz' false c=>e' = e∧sz' = (T e).size∧(c.length + news.length) * (T e).bytes ≤ 140737488355328∧K (zc8 s d k (.sli e (T e).size false (c ++ news)))
   | _=>False)
  | _=>False)
 | _=>False
theorem zpf (d:Nat) (t:TypeId) (x y:PV):zjV T s d t t x y K = zGc T s d (T t).k (T t).size x y K:=propext ⟨fun h=>h.2,fun h=>⟨rfl,h⟩⟩
theorem ztu {d e:Nat} (x y:PV) (h2:(T e).size = 1) (h3:0 < (T e).bytes):zGc T s d (.sli e) 1 x y K = zjs T s.rw y (kk fun news=>zFa T s d e x news (kk K)):=by
 unfold zGc zjs
 simp only [h2,h3,true_and,kk,Nat.one_pos]
 unfold zFa zjt
 cases x <;> rfl
theorem ztv (d e j ver:Nat) (news:List PV):zFa T s d e (.own j ver) news K = zjt T s d j ver e (s.rw j) news K:=(rfl)
theorem ztw (d e:Nat) (news:List PV):zFa T s d e (.v (.slice none 0 0)) news K = (news.length * (T e).bytes ≤ 140737488355328∧K (zcR s d (.sli e 1 false news) (fun v=>.own d v))):=by simp [zFa,zdI]
theorem zlV (d j ver e:Nat) (c news:List PV):zjt T s d j ver e ⟨ver,.sli e 1 false c⟩ news K = ((c.length + news.length) * (T e).bytes ≤ 140737488355328∧K (zc8 s d j (.sli e 1 false (c ++ news)))):=by simp [zjt]
theorem zlW (d j ver e:Nat) (news:List PV):zjt T s d j ver e ⟨ver,.nil⟩ news K = (news.length * (T e).bytes ≤ 140737488355328∧K (zc8 s d j (.sli e 1 false news))):=by simp [zjt]
variable {Kc:List PV→Prop}
theorem zxy (c:List PV) (h:∀ p ∈ c,isV p = true) (fr:Bool):zjs T rw (.sl fr 1 c) Kc = Kc c:=by
 have e:(∀ p ∈ c,isV p = true) = True:=eq_true h
 simp only [zjs,slK,e,true_or,true_and]
theorem zxz [zai] (xs:List Int) (fr:Bool):zjs T rw (.sl fr 1 (iL xs)) Kc = Kc (iL xs):=zxy _ (by simpa using zwh xs) fr
theorem zxA [zai] (k:IntKind) (xs:List Int) (fr:Bool):zjs T rw (.sl fr 1 (kL k xs)) Kc = Kc (kL k xs):=zxy _ (by simpa using zEG k xs) fr
theorem zxB [zai] (xs:List ByteArray) (fr:Bool):zjs T rw (.sl fr 1 (sL xs)) Kc = Kc (sL xs):=zxy _ (by simpa using zBf xs) fr
theorem ztx [zai] (xs:List (List Int)):zjs T rw (.sl true 1 (iLL xs)) Kc = Kc (iLL xs):=by
 have:∀ p ∈ iLL xs,zqN p = true:=by simpa using zzV xs
 simp only [zjs,slK,true_and,true_or,eq_true this,or_true]
def zuQ (c:List PV):Prop:=∀ p ∈ c,zqN p = true
def zuR (r:Row) (ver:Nat) (K:List PV→Prop):Prop:=r.ver = ver∧match r.kind with | .nil=>K [] | .sli _ sz _ c=>sz = 1∧zuQ c∧K c | _=>False
theorem zpg (j ver:Nat):zjs T rw (.own j ver) Kc = zuR (rw j) ver Kc:=by
 unfold zjs slK zuR
 dsimp only
 generalize (rw j).kind = kd
 cases kd with
 | sli e sz fz c =>
   dsimp only
   refine propext ⟨fun ⟨a,b,h,d⟩=>⟨a,b,?_,d⟩,fun ⟨a,b,h,d⟩=>⟨a,b,.inr ⟨rfl,h⟩,d⟩⟩
   rcases h with h | h
   ·intro p hp
    have:=h p hp
    cases p <;> simp [isV] at this
    exact this
   ·exact h.2
 | nil=>simp
 | _=>simp
theorem zph (ver e:Nat) (fz:Bool) (c:List PV):zuR ⟨ver,.sli e 1 fz c⟩ ver Kc = (zuQ c∧Kc c):=by simp [zuR]
theorem zpi (ver:Nat):zuR ⟨ver,.nil⟩ ver Kc = Kc []:=by simp [zuR]
theorem zty:zuQ [] = True:=by simp [zuQ]
theorem zxC (xs:List Int):zuQ (iL xs) = True:=by simp [zuQ,iL,zqN,Value.oneCell']
theorem zxD (k:IntKind) (xs:List Int):zuQ (kL k xs) = True:=by simp [zuQ,kL,zqN,Value.oneCell']
theorem zxE (xs:List ByteArray):zuQ (sL xs) = True:=by simp [zuQ,sL,zqN,Value.oneCell']
theorem zxF (xs:List Bool):zuQ (bL xs) = True:=eq_true fun p hp=>by
 simp only [bL,List.mem_map] at hp
 obtain ⟨x,_,rfl⟩:=hp
 rfl
theorem ztz (xs:List (List Int)):zuQ (iLL xs) = True:=by simp [zuQ,iLL,zqN]
theorem zpj (j:Nat):[j].Nodup = True:=by simp
theorem zpk (i j:Nat):[i,j].Nodup = (i ≠ j):=by simp
theorem zxG (j:Nat):(j < lent) = (j < 1000000):=(rfl)
theorem zFb (v u:Value) {Kn:List Nat→Prop}:znM rw (.v v) (.im (.v u)) Kn = (PV.v u = PV.v v∧Kn []):=(rfl)
def zpl (r:Row) (j ver e sz:Nat) (c:List PV) (K:List Nat→Prop):Prop:=j < lent∧r.ver = ver∧(match r.kind with
 | .nil=>c = []∧K []
 | .sli e' sz' false c'=>e' = e∧sz' = sz∧c' = c∧K [j]
 | _=>False)
theorem zxH (j ver e sz:Nat) (c:List PV) {Kn:List Nat→Prop}:znM rw (.own j ver) (.fr e sz c) Kn = zpl (rw j) j ver e sz c Kn:=(rfl)
theorem zlX (j ver e sz:Nat) (c c':List PV) {Kn:List Nat→Prop} (h:j < lent):zpl ⟨ver,.sli e sz false c'⟩ j ver e sz c Kn = (c' = c∧Kn [j]):=by simp [zpl,h]
theorem ztA {t:Nat} {rv:RV}:zuS T s [.tmp t] rv = znM s.rw (s.sl t) rv List.Nodup:=(rfl)
theorem zpm {a:Nat} {t:TypeId} {rv:RV}:zuS T s [.cell a t] rv = zqO s.rw (s.sl a) (kk fun m c off=>ldK T t m c off (kk fun p=>znM s.rw p rv List.Nodup)):=(rfl)
theorem ztB {r1 r2:ResultVar} {rv:RV}:zuS T s [r1,r2] rv = zvR T s [r1,r2] (kk fun ps=>znM s.rw (.tup ps) rv List.Nodup):=(rfl)
theorem zlY {r1 r2 r3:ResultVar} {rv:RV}:zuS T s [r1,r2,r3] rv = zvR T s [r1,r2,r3] (kk fun ps=>znM s.rw (.tup ps) rv List.Nodup):=(rfl)
theorem ztC (Kr:List PV→Prop):zvR T s [] (kk Kr) = Kr []:=(rfl)
theorem ztD (t:Nat) (rs:List ResultVar) (Kr:List PV→Prop):zvR T s (.tmp t :: rs) (kk Kr) = evK (s.sl t) (kk fun p=>zvR T s rs (kk fun ps=>Kr (p :: ps))):=(rfl)
theorem zpn (a:Nat) (t:TypeId) (rs:List ResultVar) (Kr:List PV→Prop):zvR T s (.cell a t :: rs) (kk Kr) = zqO s.rw (s.sl a) (kk fun m c off=>ldK T t m c off (kk fun p=>zvR T s rs (kk fun ps=>Kr (p :: ps)))):=(rfl)
theorem ztE (e sz:Nat) (c:List PV) {Kn:List Nat→Prop}:znM rw (.v (.slice none 0 0)) (.fr e sz c) Kn = (c = []∧Kn []):=by simp [znM,zjH,zdI]
theorem ztF (e sz:Nat) (c:List PV) {Kn:List Nat→Prop}:zxT rw (.v (.slice none 0 0)) (.fr e sz c) Kn = (c = []∧Kn []):=by simp [zxT,zjH,zdI]
theorem ztG (e sz:Nat) (c:List PV) {Kn:List Nat→Prop}:zjH rw (.v (.slice none 0 0)) (.fr e sz c) Kn = (c = []∧Kn []):=by simp [zjH,zdI]
theorem zlZ [zai] (d e sz:Nat) (y:Value) (c:List PV):zam s d (.tup [.ag [.fr e sz c],.im (.v y)]) = (s.row d ⟨(s.rw d).ver + 1,.sli e sz false c⟩).put (some d) (.tup [.ag [.own d ((s.rw d).ver + 1)],.v y]):=by
 unfold zam
 simp [zbQ,zcp,leaves,zav,zaT,zbW,zbN,zbg,zal,St.row,zhf]
 rfl
theorem zl0 [zai] (d e sz:Nat) (x y:Value) (c:List PV):zam s d (.tup [.ag [.im (.v x),.fr e sz c],.im (.v y)]) = (s.row d ⟨(s.rw d).ver + 1,.sli e sz false c⟩).put (some d) (.tup [.ag [.v x,.own d ((s.rw d).ver + 1)],.v y]):=by
 unfold zam
 simp [zbQ,zcp,leaves,zav,zaT,zbW,zbN,zbg,zal,St.row,zhf]
 rfl
theorem zpo [zai] (d e sz:Nat) (y:Value) (c:List PV):zam s d (.tup [.ag [.fr e sz c],.im (.v y)]) = (s.row d ⟨(s.rw d).ver + 1,.sli e sz false c⟩).put (some d) (.tup [.ag [.own d ((s.rw d).ver + 1)],.v y]):=by
 unfold zam
 simp [zbQ,zcp,leaves,zav,zaT,zbW,zbN,zbg,zal,St.row,zhf]
 rfl
theorem zdz (d:Nat) (v:Value):zam s d (.im (.v v)) = s.put (some d) (.v v):=by
 unfold zam
 simp [leaves,zav,zaT,zbN,zhf]
theorem ztH [zai] {f:FuncId} {raw lent:List PV} {k d:Nat} {x:Value} {r:Row} {Ke:Ent→St→Prop} {Ka:RV→Prop} {us:Dm s} {u:Dm Ke} (rd:List Nat) (h:∀ s':St,s'.rw k = s.rw k→(∀ a ∈ rd,s'.rw a = s.rw a)→∀ K':St→Prop,K' ((s'.row k r).put (some d) (.v x))→askG P s' f raw (some d) K') (hd:d % 1000 ≠ k % 1000)
 (hk:Ke ⟨rd,.ids [d,k]⟩ ((s.row k r).put (some d) (.v x))):zh4 P f lent Ka (zBI P f raw d (kk s us) (kk Ke u)) :=
 zz0 (x:=.im (.v x)) (r:=r) rd (fun s' h1 h2 K' hk'=>h s' h1 h2 K' (by rw [zdz] at hk';exact hk')) hd (by rw [zdz];exact hk)
theorem ziq (d e sz:Nat) (c:List PV):zam s d (.fr e sz c) = (s.row d ⟨(s.rw d).ver + 1,.sli e sz false c⟩).put (some d) (.own d ((s.rw d).ver + 1)):=by
 unfold zam
 simp [leaves,zav,zaT,zbN,zal,St.row]
 rfl
theorem zpp [zai] (d e sz:Nat) (c:List PV):zam s d (.ag [.fr e sz c]) = (s.row d ⟨(s.rw d).ver + 1,.sli e sz false c⟩).put (some d) (.ag [.own d ((s.rw d).ver + 1)]):=by
 unfold zam
 simp [zcp,leaves,zav,zaT,zbW,zbg,zbN,zal,St.row]
 rfl
theorem zpq [zai] (d e sz:Nat) (x:Value) (c:List PV):zam s d (.ag [.im (.v x),.fr e sz c]) = (s.row d ⟨(s.rw d).ver + 1,.sli e sz false c⟩).put (some d) (.ag [.v x,.own d ((s.rw d).ver + 1)]):=by
 unfold zam
 simp [zcp,leaves,zav,zaT,zbW,zbg,zbN,zal,St.row,zhf]
 rfl
theorem zpr [zai] (d e sz e2 sz2:Nat) (x y:Value) (c c2:List PV):zam s d (.ag [.im (.v x),.fr e sz c,.im (.v y),.fr e2 sz2 c2]) =
 ((s.row (d + 1000) ⟨(s.rw (d + 1000)).ver + 1,.sli e2 sz2 false c2⟩).row d ⟨(s.rw d).ver + 1,.sli e sz false c⟩).put (some d) (.ag [.v x,.own d ((s.rw d).ver + 1),.v y,.own (d + 1000) ((s.rw (d + 1000)).ver + 1)]):=by
 unfold zam
 simp [zcp,leaves,zav,zaT,zbW,zbg,zbN,zal,St.row,zhf]
 rfl
theorem zps [zai] (d:Nat) (x y:Value):zam s d (.tup [.im (.v x),.im (.v y)]) = s.put (some d) (.tup [.v x,.v y]):=by
 unfold zam
 simp [zbQ,leaves,zav,zaT,zbW,zbg,zbN,zal,St.row,zhf]
theorem zpt [zai] (d e sz:Nat) (c:List PV) (y:Value):zam s d (.tup [.fr e sz c,.im (.v y)]) = (s.row d ⟨(s.rw d).ver + 1,.sli e sz false c⟩).put (some d) (.tup [.own d ((s.rw d).ver + 1),.v y]):=by
 unfold zam
 simp [zbQ,leaves,zav,zaT,zbW,zbg,zbN,zal,St.row,zhf]
 rfl
theorem imm_ag [zai] (l:List RV):(RV.ag l).imm = .ag (l.map RV.imm):=RV.imm_ag l
theorem imm_tup [zai] (l:List RV):(RV.tup l).imm = .tup (l.map RV.imm):=RV.imm_tup l
theorem zxI (ps:List PV) (l:List RV) {Kn:List Nat→Prop}:znM rw (.ag ps) (.ag l) Kn = zvS (zxT rw) ps l Kn:=(rfl)
theorem ztI (ps:List PV) (l:List RV) {Kn:List Nat→Prop}:znM rw (.tup ps) (.tup l) Kn = zvS (zxT rw) ps l Kn:=(rfl)
theorem zxJ (ps:List PV) (l:List RV) {Kn:List Nat→Prop}:zxT rw (.ag ps) (.ag l) Kn = zvS (zjH rw) ps l Kn:=(rfl)
theorem ztJ (f:PV→RV→(List Nat→Prop)→Prop) {Kn:List Nat→Prop}:zvS f [] [] Kn = Kn []:=(rfl)
theorem zpu (f:PV→RV→(List Nat→Prop)→Prop) (p:PV) (ps:List PV) (r:RV) (rs:List RV) {Kn:List Nat→Prop}:zvS f (p :: ps) (r :: rs) Kn = f p r (kk fun a=>zvS f ps rs (kk fun b=>Kn (a ++ b))):=(rfl)
theorem zBX (v u:Value) {Kn:List Nat→Prop}:zxT rw (.v v) (.im (.v u)) Kn = (PV.v u = PV.v v∧Kn []):=(rfl)
theorem zl1 (e e2:Nat) (rows:List (List PV)) {Kn:List Nat→Prop}:zjH rw (.v (.slice none 0 0)) (.tb e e2 rows) (kk Kn) = (rows = []∧Kn []):=by simp [zjH,zdI,kk]
theorem zBY (v u:Value) {Kn:List Nat→Prop}:zjH rw (.v v) (.im (.v u)) Kn = (PV.v u = PV.v v∧Kn []):=(rfl)
theorem ztK (j ver e sz:Nat) (c:List PV) {Kn:List Nat→Prop}:zxT rw (.own j ver) (.fr e sz c) Kn = zpl (rw j) j ver e sz c Kn:=(rfl)
theorem ztL (j ver e sz:Nat) (c:List PV) {Kn:List Nat→Prop}:zjH rw (.own j ver) (.fr e sz c) Kn = zpl (rw j) j ver e sz c Kn:=(rfl)
theorem zBZ (v:Value):(RV.im (.v v)).imm = .v v:=by simp [RV.imm,zhf]
theorem zB0 (e sz:Nat) (c:List PV):(RV.fr e sz c).imm = .sl true sz c:=by simp [RV.imm]
theorem ztM (rw:Nat→Row) (n:Nat) (k:IntKind) (x:Int):zcl rw (n + 1) (.v (.int k x)) = .v (.int k x):=(rfl)
theorem zpv (rw:Nat→Row) (n:Nat) (x:Bool):zcl rw (n + 1) (.v (.bool x)) = .v (.bool x):=(rfl)
theorem zju (rw:Nat→Row) (n:Nat) (x:ByteArray):zcl rw (n + 1) (.v (.string x)) = .v (.string x):=(rfl)
theorem ztN (rw:Nat→Row) (n:Nat):zcl rw (n + 1) (.v (.slice none 0 0)) = .sl false 1 []:=(rfl)
theorem zxK (rw:Nat→Row) (n:Nat) (fr:Bool) (sz:Nat) (c:List PV):zcl rw (n + 1) (.sl fr sz c) = .sl false sz c:=(rfl)
theorem zxL (rw:Nat→Row) (n:Nat) (c:List PV):zcl rw (n + 1) (.ag c) = .ag (c.map (zcl rw n)):=(rfl)
theorem zpw (rw:Nat→Row) (n:Nat) (fr:Bool) (c:List PV) (o:Nat):zcl rw (n + 1) (.eref fr c o) = .eref false c o:=(rfl)
def zjv (rw:Nat→Row) (n:Nat) (r:Row) (ver off:Nat):PV:=if r.ver = ver then (match r.kind with | .box _ c=>.eref false (c.map (zcl rw n)) off | .sli _ _ _ c=>.eref false c off | _=>.junk) else .junk
theorem ztO (rw:Nat→Row) (n j ver off:Nat):zcl rw (n + 1) (.ref j ver off) = zjv rw n (rw j) ver off:=(rfl)
theorem zjw (rw:Nat→Row) (n ver off:Nat) (t:TypeId) (c:List PV):zjv rw n ⟨ver,.box t c⟩ ver off = .eref false (c.map (zcl rw n)) off:=by simp [zjv]
theorem zjx (rw:Nat→Row) (n ver off e z:Nat) (fz:Bool) (c:List PV):zjv rw n ⟨ver,.sli e z fz c⟩ ver off = .eref false c off:=by simp [zjv]
theorem ztP (rw:Nat→Row) (n:Nat) (f:FuncId) (c:List PV):zcl rw (n + 1) (.clo f c) = .clo f (c.map (zcl rw n)):=(rfl)
def zfH (rw:Nat→Row) (n:Nat) (r:Row) (ver:Nat):PV:=if r.ver = ver then (match r.kind with | .nil=>.sl false 1 [] | .sli _ sz _ c=>.sl false sz c | .tab _ c=>.sl false 1 (c.map (zkS rw)) | _=>.junk) else .junk
theorem ztQ (rw:Nat→Row) (n j ver:Nat):zcl rw (n + 1) (.own j ver) = zfH rw n (rw j) ver:=(rfl)
theorem zjy (rw:Nat→Row) (n:Nat) (ver e:Nat) (c:List PV):zfH rw n ⟨ver,.tab e c⟩ ver = .sl false 1 (c.map (zkS rw)):=by simp [zfH]
theorem zjz (rw:Nat→Row) (n:Nat) (ver e sz:Nat) (fz:Bool) (c:List PV):zfH rw n ⟨ver,.sli e sz fz c⟩ ver = .sl false sz c:=by simp [zfH]
theorem zjA (rw:Nat→Row) (n:Nat) (ver:Nat):zfH rw n ⟨ver,.nil⟩ ver = .sl false 1 []:=by simp [zfH]
end
def zxM:PV→Prop | .sl _ sz c=>c.length ≤ 9223372036854775807 * sz | _=>True
def zjB:PV→Prop | .sl _ sz c=>c.length ≤ 9223372036854775807 * sz∧∀ p ∈ c,zxM p | .ag c=>∀ p ∈ c,zxM p | .eref _ c _=>∀ p ∈ c,zxM p | _=>True
def zmN:PV→Prop | .sl _ sz c=>c.length ≤ 9223372036854775807 * sz∧∀ p ∈ c,zjB p | .ag c=>∀ p ∈ c,zjB p | .eref _ c _=>∀ p ∈ c,zjB p | .clo _ c=>∀ p ∈ c,zjB p | _=>True
def zz1:List PV→Prop | []=>True | p :: ps=>zmN p∧zz1 ps
theorem zmO {w:World} {E:Env} {lo:Nat} {p:PV} {x:Value} (h:Rep w E lo p x):zxM p:=by
 cases h <;> try trivial
 next sz len cap cells a cs hl hc hm hr hh =>
  show cells.length ≤ 9223372036854775807 * sz
  rw [hl]
  exact Nat.mul_le_mul_right _ (Nat.le_trans hc hm)
theorem zir [zai] {w:World} {E:Env} {lo:Nat} {p:PV} {x:Value} (h:Rep w E lo p x):zjB p:=by
 cases h <;> try trivial
 case sl fr sz len cap cells a cs hl hc hm hr hh =>
  refine ⟨?_,fun p hp=>?_⟩
  ·rw [hl];exact Nat.mul_le_mul_right _ (Nat.le_trans hc hm)
  ·obtain ⟨i,hi,rfl⟩:=List.getElem_of_mem hp;exact zmO (hh i hi)
 case eref fr cells off b o cs hr hh=>intro p hp;obtain ⟨i,hi,rfl⟩:=List.getElem_of_mem hp;exact zmO (hh i hi)
 case ag cells vs hl hh=>intro p hp;obtain ⟨i,hi,rfl⟩:=List.getElem_of_mem hp;exact zmO (hh i hi (by omega))
theorem zz2 [zai] {w:World} {E:Env} {lo:Nat} {p:PV} {x:Value} (h:Rep w E lo p x):zmN p:=by
 cases h <;> try trivial
 case sl fr sz len cap cells a cs hl hc hm hr hh =>
  refine ⟨?_,fun p hp=>?_⟩
  ·rw [hl];exact Nat.mul_le_mul_right _ (Nat.le_trans hc hm)
  ·obtain ⟨i,hi,rfl⟩:=List.getElem_of_mem hp;exact zir (hh i hi)
 case eref fr cells off b o cs hr hh=>intro p hp;obtain ⟨i,hi,rfl⟩:=List.getElem_of_mem hp;exact zir (hh i hi)
 case ag cells vs hl hh=>intro p hp;obtain ⟨i,hi,rfl⟩:=List.getElem_of_mem hp;exact zir (hh i hi (by omega))
 case clo f cells vs hl hh=>intro p hp;obtain ⟨i,hi,rfl⟩:=List.getElem_of_mem hp;exact zir (hh i hi (by omega))
theorem zxN [zai] {w:World} {E:Env} {lo:Nat} {ps:List PV} {vs:List Value} (h:zbl w E lo ps vs):zz1 ps:=by
 have:∀ p ∈ ps,zmN p:=by
  intro p hp
  obtain ⟨i,hi,rfl⟩:=List.getElem_of_mem hp
  exact zz2 (h.2 i hi (by rw [← h.1];exact hi))
 clear h
 induction ps with
 | nil=>trivial
 | cons p ps ih=>exact ⟨this p (by simp),ih fun q hq=>this q (by simp [hq])⟩
theorem zbt:zz1 [] = True:=(rfl)
theorem za6 (p:PV) (ps:List PV):zz1 (p :: ps) = (zmN p∧zz1 ps):=(rfl)
theorem zeA (x:Value):zmN (.v x) = True:=(rfl)
theorem zd4 (x:Value):zjB (.v x) = True:=(rfl)
theorem zc5 (fr:Bool) (xs:List Int):zjB (.sl fr 1 (iL xs)) = (xs.length ≤ 9223372036854775807):=by simp [zjB,zxM,iL]
theorem zeY (fr:Bool) (xs:List Int):zmN (.sl fr 1 (iL xs)) = (xs.length ≤ 9223372036854775807):=by simp [zmN,zjB,iL]
theorem zcn (x y:PV):zmN (.ag [x,y]) = (zjB x∧zjB y):=by simp [zmN]
theorem AC.go [zai] {f:FuncId} {fn:Func} {c:Code} {rs:List ResultVar} {args:List PV} {rv:RV} (hT:T.Ok P) (hm:P.follows .mixedOrders = true) (hf:P.funcs[f]? = some fn) (hname:(fn.name == "runtime.NumGoroutine") = false)
 (hb:fn.body = some c) (hr:fn.results.toList = rs) (hfit:(fits fn.ntmps c && decide (args.length ≤ fn.ntmps) && decide (fn.results.toList.length ≤ 4)) = true) (h:zz1 args→cwp P T c (zFW T rs rv) (St.init args)):AC P f args rv:=by
 subst hr
 refine ⟨⟨fn,hf,hname,by rw [hb];rfl⟩,fun w vals hphi hv=>?_⟩
 exact (AC.of hT hm hf hname hb hfit (h (zxN hv))).2 w vals hphi hv
theorem AM.go [zai] {f:FuncId} {fn:Func} {c:Code} {rs:List ResultVar} {args:List PV} {ins:List LR} {outs:List (List PV)} {x:Value} (hT:T.Ok P) (hm:P.follows .mixedOrders = true) (hf:P.funcs[f]? = some fn) (hname:(fn.name == "runtime.NumGoroutine") = false)
 (hb:fn.body = some c) (hr:fn.results.toList = rs) (hfit:(fits fn.ntmps c && decide (args.length ≤ fn.ntmps) && decide (fn.results.toList.length ≤ 4)) = true) (hi:∀ r ∈ ins,zb3 r.c) (ho:∀ c ∈ outs,zb3 c) (hlen:outs.length = ins.length)
 (h:(∀ r ∈ ins,r.c.length ≤ 9223372036854775807 * r.sz)→cwp P T c (zFV T rs ins outs x) (St.initM args ins)):AM P f args ins outs x:=by
 subst hr
 exact AM.of hT hm hf hname hb hfit hi ho hlen h
theorem zcJ [zai] (xs:List Int):zb3 (iL xs):=by have:=zwh xs;unfold zb3;rw [this];trivial
theorem zz3 [zai] (xs:List ByteArray):zb3 (sL xs):=by have:=zBf xs;unfold zb3;rw [this];trivial
theorem zis (args:List PV) (ins:List LR) (i:Nat):(St.initM args ins).sl i = args.getD i .junk:=(rfl)
theorem zit (args:List PV) (ins:List LR) (i:Nat):(St.initM args ins).rw i = inR ins i:=(rfl)
theorem ztR (ins:List LR) (k:Nat) (h:k < 1000000):inR ins k = ⟨0,.dead⟩:=by
 unfold inR;rw [if_neg (by show ¬ (1000000 ≤ k);omega)]
theorem zz4 [zai] (e sz:Nat) (c:List PV) (l:List LR):inR (⟨e,sz,c⟩ :: l) 1000000 = ⟨1,.sli e sz false c⟩:=zpY (ins:=⟨e,sz,c⟩ :: l) (i:=0) rfl
theorem zz5 [zai] (r:LR) (e sz:Nat) (c:List PV) (l:List LR):inR (r :: ⟨e,sz,c⟩ :: l) 1000001 = ⟨1,.sli e sz false c⟩:=zpY (ins:=r :: ⟨e,sz,c⟩ :: l) (i:=1) rfl
theorem ztS (rs:List ResultVar) (ins:List LR) (outs:List (List PV)) (x:Value):zFV T rs ins outs x .ret s = zCN T s rs ins outs x:=(rfl)
theorem zpx (rs:List ResultVar) (ins:List LR) (outs:List (List PV)) (x:Value):zFV T rs ins outs x .norm s = zCN T s rs ins outs x:=(rfl)
theorem ztT (r:Nat) (ins:List LR) (outs:List (List PV)) (x:Value):zCN T s [.tmp r] ins outs x = (zqZ s.rw 0 ins outs∧s.sl r = .v x):=(rfl)
theorem zpy (ins:List LR) (outs:List (List PV)) (x:Value):zCN T s [] ins outs x = (zqZ s.rw 0 ins outs∧x = .tuple #[]):=(rfl)
theorem zxO (rw:Nat→Row) (e sz:Nat) (a c:List PV):zqZ rw 0 [⟨e,sz,a⟩] [c] = (rw 1000000 = ⟨1,.sli e sz false c⟩):=by
 show (rw 1000000 = ⟨1,.sli e sz false c⟩∧True) = _
 rw [and_true]
theorem zxP (rw:Nat→Row) (e sz e' sz':Nat) (a c a' c':List PV):zqZ rw 0 [⟨e,sz,a⟩,⟨e',sz',a'⟩] [c,c'] = (rw 1000000 = ⟨1,.sli e sz false c⟩∧rw 1000001 = ⟨1,.sli e' sz' false c'⟩):=by
 show (rw 1000000 = ⟨1,.sli e sz false c⟩∧rw 1000001 = ⟨1,.sli e' sz' false c'⟩∧True) = _
 rw [and_true]
theorem zmP (j v e sz:Nat) (a c:List PV):s.wrote [(j,v)] [⟨e,sz,a⟩] [c] = s.row j ⟨v,.sli e sz false c⟩:=by
 unfold St.wrote St.row zdC
 congr 1
 funext k
 by_cases h:k = j
 ·subst h;simp
 ·have:(j == k) = false:=by simp;exact fun e=>h e.symm
  simp [h,this]
theorem zmQ [zai] (j v e sz j' v' e' sz':Nat) (a c a' c':List PV) (hj:j ≠ j'):s.wrote [(j,v),(j',v')] [⟨e,sz,a⟩,⟨e',sz',a'⟩] [c,c'] = (s.row j ⟨v,.sli e sz false c⟩).row j' ⟨v',.sli e' sz' false c'⟩:=by
 have hn:([(j,v),(j',v')].map (·.1)).Nodup:=by simpa using hj
 unfold St.wrote St.row
 congr 1
 funext k
 show zdC s.rw [(j,v),(j',v')] [⟨e,sz,a⟩,⟨e',sz',a'⟩] [c,c'] k = if k = j' then ⟨v',.sli e' sz' false c'⟩ else if k = j then ⟨v,.sli e sz false c⟩ else s.rw k
 by_cases h:k = j'
 ·subst h
  rw [if_pos rfl]
  exact zjU hn (i:=1) (j:=(k,v')) (r:=⟨e',sz',a'⟩) (c:=c') rfl rfl rfl
 ·rw [if_neg h]
  by_cases h':k = j
  ·subst h'
   rw [if_pos rfl]
   exact zjU hn (i:=0) (j:=(k,v)) (r:=⟨e,sz,a⟩) (c:=c) rfl rfl rfl
  ·rw [if_neg h']
   exact zmd (by simp [h,h'])
theorem AG.go [zai] {f:FuncId} {fn:Func} {c:Code} {rs:List ResultVar} {args:List PV} {R0:Nat→Row} {post:(Nat→Row)→PV→Prop} (hT:T.Ok P) (hm:P.follows .mixedOrders = true) (hf:P.funcs[f]? = some fn) (hname:(fn.name == "runtime.NumGoroutine") = false)
 (hb:fn.body = some c) (hr:fn.results.toList = rs) (hfit:(fits fn.ntmps c && decide (args.length ≤ fn.ntmps) && decide (fn.results.toList.length ≤ 4)) = true)
 (h:zz1 args→(∀ k,zl4 (R0 k).kind)→∀ s:St,(∀ i,s.sl i = args.getD i .junk)→(∀ k,s.rw k = R0 k)→cwp P T c (zB2 T rs post) s):AG P f args R0 post:=by
 subst hr
 refine ⟨⟨fn,hf,hname,by rw [hb];rfl⟩,fun w M E vals hw hR hv=>?_⟩
 exact (AG.of hT hm hf hname hb hfit (fun hl=>h (zxN hv) hl _ (fun _=>rfl) (fun _=>rfl))).2 w M E vals hw hR hv
theorem ztU (rs:List ResultVar) (post:(Nat→Row)→PV→Prop):zB2 T rs post .ret s = zxS T s rs post:=(rfl)
theorem zpz (rs:List ResultVar) (post:(Nat→Row)→PV→Prop):zB2 T rs post .norm s = zxS T s rs post:=(rfl)
theorem ztV (r:Nat) (post:(Nat→Row)→PV→Prop):zxS T s [.tmp r] post = post s.rw (s.sl r):=(rfl)
theorem zpA (post:(Nat→Row)→PV→Prop):zxS T s [] post = post s.rw (.tup []):=(rfl)
theorem zpB (a:Nat) (t:TypeId) (post:(Nat→Row)→PV→Prop):zxS T s [.cell a t] post = zqO s.rw (s.sl a) (kk fun m c off=>ldK T t m c off (kk fun p=>post s.rw p)):=(rfl)
theorem ztW (r r2:Nat) (post:(Nat→Row)→PV→Prop):zxS T s [.tmp r,.tmp r2] post = post s.rw (.tup [s.sl r,s.sl r2]):=(rfl)
theorem zaq {n:Int} (h:-9223372036854775808 ≤ n) (h2:n ≤ 9223372036854775807):IntKind.i64.wrap n = n:=by
 simp [IntKind.wrap,IntKind.bits,IntKind.signed]
 omega
section
variable {Kp:PV→Prop}
theorem zjC [zai] (k:Nat) (p:List Nat) {t:TypeId} (o:Nat) (h0:(T t).k.agg = false) (h1:0 < (T t).size):ldK T t .asis (zaA k p) o Kp = (o < p.length∧Kp (.own (sid k (p.getD o 0)) 1)):=by
 have:=zex (T:=T) (Kp:=Kp) (fun j=>PV.own (sid k j) 1) 0 p (t:=t) (m:=.asis) o (fun j=>.own (sid k j) 1) (fun _=>rfl) h0 h1
 exact this
theorem zFT (k:Nat) (p:List Nat) (i j:Nat):spl (zaA k p) i [.own (sid k j) 1] = zaA k (p.set i j):=by
 show (zaA k p).set i (.own (sid k j) 1) = _
 unfold zaA;rw [List.map_set]
theorem zz6 (k:Nat) (p:List Nat) (j:Nat):zaA k p ++ [.own (sid k j) 1] = zaA k (p ++ [j]):=by simp [zaA]
theorem zgr (k v e e2:Nat) (p:List Nat) (rows:List (List PV)):(s.tabbed k v e e2 p rows).sl = s.sl:=(rfl)
theorem zeZ [zai] (k v e e2:Nat) (p:List Nat) (rows:List (List PV)):(s.tabbed k v e e2 p rows).rw k = ⟨v,.tab e (zaA k p)⟩:=zgA
theorem zgs [zai] (k v e e2:Nat) (p:List Nat) (rows:List (List PV)) (j:Nat) (h:(j % 1000 == k % 1000) = false):(s.tabbed k v e e2 p rows).rw j = s.rw j:=by
 have h:=beq_eq_false_iff_ne.1 h
 refine zg9 (fun e=>h (by rw [e])) fun x _ e=>h ?_
 rw [e,zbx];omega
theorem zpC (k v:Nat) (dst:Option Nat):TR.self.next s k v dst K = K (s.put dst (.own k v)):=(rfl)
theorem zl2 (k v:Nat) (dst:Option Nat) (x:Value):(TR.selfx x).next s k v dst K = K (s.put dst (.tup [.own k v,.v x])):=(rfl)
theorem zxQ (k v d:Nat) (r:RV):(TR.rv r).next s k v (some d) K = (d % 1000 ≠ k % 1000∧K (zam s d r)):=(rfl)
theorem zpD (k v:Nat) (r:RV):(TR.rv r).next s k v none K = K s:=(rfl)
theorem ziu (args:List PV) (e e2:Nat) (rows:List (List PV)) (i:Nat):(St.initT args e e2 rows).sl i = args.getD i .junk:=(rfl)
theorem ziv (args:List PV) (e e2:Nat) (rows:List (List PV)) (i:Nat):(St.initT args e e2 rows).rw i = inT e e2 rows i:=(rfl)
theorem zmR [zai] (e e2:Nat) (rows:List (List PV)) (k:Nat) (h:k < 1000000):inT e e2 rows k = ⟨0,.dead⟩:=zyb h
theorem zd5 [zai] (e e2:Nat) (rows:List (List PV)):inT e e2 rows 1000000 = ⟨1,.tab e (zaA 1000000 (List.range rows.length))⟩:=zcY
theorem ztX (rs:List ResultVar) (e e2 n:Nat) (rows:List (List PV)) (res:TR):zFU T rs e e2 n rows res .ret s = zB3 T s rs e e2 n rows res:=(rfl)
theorem zpE (rs:List ResultVar) (e e2 n:Nat) (rows:List (List PV)) (res:TR):zFU T rs e e2 n rows res .norm s = zB3 T s rs e e2 n rows res:=(rfl)
def ztY (rw:Nat→Row) (e e2 n:Nat) (rows:List (List PV)):Prop:=∃ q:List Nat,TabIs rw lent 1 e e2 q rows∧q.Perm (List.range n)
theorem zpF (r e e2 n:Nat) (rows:List (List PV)):zB3 T s [.tmp r] e e2 n rows .self = (ztY s.rw e e2 n rows∧s.sl r = .own 1000000 1):=(rfl)
theorem zl3 (r r2 e e2 n:Nat) (rows:List (List PV)) (x:Value):zB3 T s [.tmp r,.tmp r2] e e2 n rows (.selfx x) = (ztY s.rw e e2 n rows∧s.sl r = .own 1000000 1∧s.sl r2 = .v x):=(rfl)
theorem zxR (rs:List ResultVar) (e e2 n:Nat) (rows:List (List PV)) (r:RV):zB3 T s rs e e2 n rows (.rv r) = (ztY s.rw e e2 n rows∧zuS T s rs r):=(rfl)
theorem zgt [zai] (d e e2:Nat) (rows:List (List PV)):(zam s d (.tb e e2 rows)).sl d = .own d ((s.rw d).ver + 1):=by
 unfold zam
 rw [zaH]
 rfl
theorem zd6 [zai] (d e e2 t:Nat) (rows:List (List PV)) (h:t ≠ d):(zam s d (.tb e e2 rows)).sl t = s.sl t:=by
 unfold zam
 rw [za7 _ _ _ _ h]
theorem zgu [zai] (d e e2 j:Nat) (rows:List (List PV)) (h:(j % 1000 == d % 1000) = false):(zam s d (.tb e e2 rows)).rw j = s.rw j:=by
 have h:=beq_eq_false_iff_ne.1 h
 unfold zam
 rw [zfp]
 show zav s.rw d (leaves (.tb e e2 rows)) 0 j = s.rw j
 rw [zcA]
 refine zci _ _ _ _ _ fun i _ e=>h ?_
 rw [e];unfold zal;omega
theorem zpG [zai] (d e e2:Nat) (rows:List (List PV)) {i:Nat} (h:i < rows.length):(zam s d (.tb e e2 rows)).rw (sid d i) = ⟨(s.rw (sid d i)).ver + 1,.sli e2 1 false (rows.getD i [])⟩:=by
 have hrw:(zam s d (.tb e e2 rows)).rw = zha s.rw d (zbk s.rw d (leaves (.tb e e2 rows)) 0) 0:=by
  unfold zam;rw [zfp];exact zcA _ _ _ _
 have hl:(leaves (.tb e e2 rows)).length = rows.length + 1:=by rw [leaves];simp
 have h1:i + 1 < (zbk s.rw d (leaves (.tb e e2 rows)) 0).length:=by rw [za2,hl];omega
 have h2:i + 1 < (leaves (.tb e e2 rows)).length:=by rw [hl];omega
 have:=zdk s.rw d (zbk s.rw d (leaves (.tb e e2 rows)) 0) 0 (i + 1) h1
 rw [Nat.zero_add] at this
 rw [hrw]
 show zha s.rw d _ 0 (zal d (i + 1)) = _
 rw [this,zdd _ _ _ _ _ h2,Nat.zero_add]
 have h3:(leaves (.tb e e2 rows))[i + 1] = (e2,some 1,rows[i]):=by simp [leaves]
 rw [h3]
 simp [zbE,sid,List.getD,h]
theorem zdT [zai] (d e e2:Nat) (rows:List (List PV)):(zam s d (.tb e e2 rows)).rw d = ⟨(s.rw d).ver + 1,.tab e (zaO s.rw d 0 rows.length)⟩:=by
 have hrw:(zam s d (.tb e e2 rows)).rw = zha s.rw d (zbk s.rw d (leaves (.tb e e2 rows)) 0) 0:=by
  unfold zam;rw [zfp];exact zcA _ _ _ _
 have hl:(leaves (.tb e e2 rows)).length = rows.length + 1:=by rw [leaves];simp
 have h1:0 < (zbk s.rw d (leaves (.tb e e2 rows)) 0).length:=by rw [za2,hl];omega
 have h2:0 < (leaves (.tb e e2 rows)).length:=by rw [hl];omega
 have:=zdk s.rw d (zbk s.rw d (leaves (.tb e e2 rows)) 0) 0 0 h1
 rw [Nat.zero_add] at this
 rw [hrw]
 have hd:zal d 0 = d:=by unfold zal;omega
 have e1:zha s.rw d (zbk s.rw d (leaves (.tb e e2 rows)) 0) 0 d = zha s.rw d (zbk s.rw d (leaves (.tb e e2 rows)) 0) 0 (zal d 0):=by rw [hd]
 rw [e1,this,zdd _ _ _ _ _ h2]
 have h3:(leaves (.tb e e2 rows))[0] = (e,none,List.replicate rows.length .junk):=by simp [leaves]
 rw [h3]
 simp [zbE,hd]
theorem zjD [zai] (d j:Nat):zal d (0 + 1 + j) = sid d j:=by rw [zbx];unfold zal;omega
theorem zpH [zai] (d e e2:Nat) (rows:List (List PV)) (h:∀ i,i < rows.length→(s.rw (sid d i)).ver = 0):TabIs (zam s d (.tb e e2 rows)).rw d ((s.rw d).ver + 1) e e2 (List.range rows.length) rows:=by
 refine ⟨?_,by simp,fun i hi=>?_⟩
 ·rw [zdT]
  congr 2
  unfold zaO zaA
  refine List.map_congr_left fun j hj=>?_
  rw [zjD,h j (List.mem_range.1 hj)]
 ·have hi':i < rows.length:=by simpa using hi
  have:(List.range rows.length).getD i 0 = i:=by simp [List.getD,hi']
  rw [this,zpG d e e2 rows hi',h i hi']
theorem zqY [zai] (d e e2:Nat) (rows:List (List PV)):(zaO s.rw d 0 rows.length).map (zkS (zam s d (.tb e e2 rows)).rw) = rows.map fun r=>.sl false 1 r:=by
 refine List.ext_getElem (by simp [zaO]) fun i a b=>?_
 have hi:i < rows.length:=by simpa using b
 have h2:rows.getD i [] = rows[i]:=by simp [List.getD,hi]
 rw [List.getElem_map,List.getElem_map]
 simp only [zaO,List.getElem_map,List.getElem_range]
 rw [zjD]
 simp only [zkS,zpG d e e2 rows hi,if_true,h2]
end
theorem zgv (k:Nat) (p:List Nat):(s.killed k p).sl = s.sl:=(rfl)
theorem zgw [zai] (k:Nat) (p:List Nat) (j:Nat) (h:(j % 1000 == k % 1000) = false):(s.killed k p).rw j = s.rw j:=by
 have h:=beq_eq_false_iff_ne.1 h
 refine zb9 fun hj=>h ?_
 rcases hj with rfl | ⟨x,_,rfl⟩
 ·rfl
 ·exact zaa _ _
theorem zjE [zai] {rw0:Nat→Row} (d e e2:Nat) (rows:List (List PV)) (h:∀ i,s.rw (sid d i) = rw0 (sid d i)):(zaO rw0 d 0 rows.length).map (zkS (zam s d (.tb e e2 rows)).rw) = rows.map fun r=>.sl false 1 r:=by
 have:zaO rw0 d 0 rows.length = zaO s.rw d 0 rows.length:=by
  unfold zaO
  refine List.map_congr_left fun j _=>?_
  rw [zjD,h j]
 rw [this,zqY]
theorem zB1 (M:List (List Int)):(M.map iL).map (fun r=>PV.sl false 1 r) = iLL M:=by
 unfold iLL
 rw [List.map_map];rfl
def zjF [zai] {α:Type} (I:α→St→Prop) (μ:α→Nat) (m:Nat) (s2:St):Prop:=∃ x' s3,Wk s2 s3∧I x' s3∧μ x' < m
theorem zag [zai] {α:Type} {I:α→St→Prop} {μ:α→Nat} {m:Nat} (x':α) (h:I x' s) (hm:μ x' < m):zjF I μ m s:=⟨x',s,Wk.refl s,h,hm⟩
theorem zao [zai] {α:Type} (I:α→St→Prop) (μ:α→Nat) (x0:α) {b:(AX→St→Prop)→St→Prop} {u:Dm b} {v:Dm Q} (h0:I x0 s) (h:∀ x s1,I x s1→b (AX.seq (zjF I μ (μ x)) Q) s1):zpL (kk b u) (kk Q v) s :=
 ⟨α,I,μ,⟨x0,s,Wk.refl s,h0⟩,h⟩
end
end Go.Abs
