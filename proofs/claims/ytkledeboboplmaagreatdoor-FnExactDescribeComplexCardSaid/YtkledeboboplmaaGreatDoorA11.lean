/- DERIVED by an AI agent. Rules by which simp carries a text out, head first. No program in sight. -/
import Derived.Test.YtkledeboboplmaaGreatDoorA10
namespace Go.Abs
set_option linter.unusedSimpArgs false
set_option linter.unusedVariables false
def iL (xs:List Int):List PV:=xs.map fun n=>.v (.int .i64 n)
def kL (k:IntKind) (xs:List Int):List PV:=xs.map fun n=>.v (.int k n)
def sL (xs:List ByteArray):List PV:=xs.map fun n=>.v (.string n)
def bL (xs:List Bool):List PV:=xs.map fun n=>.v (.bool n)
def iLL (xss:List (List Int)):List PV:=xss.map fun r=>.sl false 1 (iL r)
abbrev zax (xs:List Int):PV:=.sl false 1 (iL xs)
abbrev zNb (xs:List ByteArray):PV:=.sl false 1 (sL xs)
abbrev zCx (xss:List (List Int)):PV:=.sl false 1 (iLL xss)
abbrev int (n:Int):PV:=.v (.int .i64 n)
abbrev u64 (n:Int):PV:=.v (.int .u64 n)
abbrev bool (b:Bool):PV:=.v (.bool b)
abbrev str (s:ByteArray):PV:=.v (.string s)
theorem zpI (xs:List Int):(iL xs).length = xs.length:=by simp [iL]
theorem zpJ (k:IntKind) (xs:List Int):(kL k xs).length = xs.length:=by simp [kL]
theorem zpK (xs:List ByteArray):(sL xs).length = xs.length:=by simp [sL]
theorem zpL (xs:List Bool):(bL xs).length = xs.length:=by simp [bL]
theorem zia (xs:List (List Int)):(iLL xs).length = xs.length:=by simp [iLL]
theorem zpM (xs ys:List Int):iL xs ++ iL ys = iL (xs ++ ys):=by simp [iL]
theorem zyd (xs:List Int) (n:Int):iL xs ++ [.v (.int .i64 n)] = iL (xs ++ [n]):=by simp [iL]
theorem zpN (k:IntKind) (xs ys:List Int):kL k xs ++ kL k ys = kL k (xs ++ ys):=by simp [kL]
theorem zye (k:IntKind) (xs:List Int) (n:Int):kL k xs ++ [.v (.int k n)] = kL k (xs ++ [n]):=by simp [kL]
theorem zyf (xs:List ByteArray) (n:ByteArray):sL xs ++ [.v (.string n)] = sL (xs ++ [n]):=by simp [sL]
theorem zpO (xs ys:List ByteArray):sL xs ++ sL ys = sL (xs ++ ys):=by simp [sL]
theorem zow (xs:List (List Int)) (r:List Int):iLL xs ++ [.sl false 1 (iL r)] = iLL (xs ++ [r]):=by simp [iLL]
theorem zmR (xs ys:List (List Int)):iLL xs ++ iLL ys = iLL (xs ++ ys):=by simp [iLL]
theorem zyg (xs:List Int) (n:Nat):(iL xs).take n = iL (xs.take n):=by simp [iL]
theorem zyh (xs:List Int) (n:Nat):(iL xs).drop n = iL (xs.drop n):=by simp [iL]
theorem zyi (xs:List ByteArray) (n:Nat):(sL xs).take n = sL (xs.take n):=by simp [sL]
theorem zyj (xs:List ByteArray) (n:Nat):(sL xs).drop n = sL (xs.drop n):=by simp [sL]
theorem zt2 (xs:List (List Int)) (n:Nat):(iLL xs).take n = iLL (xs.take n):=by simp [iLL]
theorem zt3 (xs:List (List Int)) (n:Nat):(iLL xs).drop n = iLL (xs.drop n):=by simp [iLL]
theorem zEg (xs:List Int) (i:Nat) (n:Int):spl (iL xs) i [.v (.int .i64 n)] = iL (xs.set i n):=by simp [spl,iL]
theorem zEh (a p:PV) (c:List PV):spl (a :: c) 0 [p] = p :: c:=by simp [spl]
theorem zEi (a b p:PV) (c:List PV):spl (a :: b :: c) 1 [p] = a :: p :: c:=by simp [spl]
theorem zEj (a b d p:PV) (c:List PV):spl (a :: b :: d :: c) 2 [p] = a :: b :: p :: c:=by simp [spl]
theorem zEk (a b d e p:PV) (c:List PV):spl (a :: b :: d :: e :: c) 3 [p] = a :: b :: d :: p :: c:=by simp [spl]
theorem zEl (a b p q:PV):spl [a,b] 0 [p,q] = [p,q]:=by simp [spl]
theorem zEm (a b c d p q:PV):spl [a,b,c,d] 0 [p,q] = [p,q,c,d]:=by simp [spl]
theorem zyk (a b c d p q:PV):spl [a,b,c,d] 2 [p,q] = [a,b,p,q]:=by simp [spl]
theorem zEn (a b c d p q r s:PV):spl [a,b,c,d] 0 [p,q,r,s] = [p,q,r,s]:=by simp [spl]
theorem zEo (xs:List Bool) (i:Nat) (n:Bool):spl (bL xs) i [.v (.bool n)] = bL (xs.set i n):=by simp [spl,bL]
theorem zyl (xs:List (List Int)) (i:Nat) (r:List Int):spl (iLL xs) i [.sl false 1 (iL r)] = iLL (xs.set i r):=by simp [spl,iLL]
theorem zc6 (n:Nat) (x:Int):List.replicate n (PV.v (.int .i64 x)) = iL (List.replicate n x):=by simp [iL]
theorem zfm (n:Nat) (x:Bool):List.replicate n (PV.v (.bool x)) = bL (List.replicate n x):=by simp [bL]
theorem zym (xs:List Int):(∀ p ∈ iL xs,isV p = true) = True:=by simp [iL,isV,Value.oneCell']
theorem zI7 (k:IntKind) (xs:List Int):(∀ p ∈ kL k xs,isV p = true) = True:=by simp [kL,isV,Value.oneCell']
theorem zEp (xs:List ByteArray):(∀ p ∈ sL xs,isV p = true) = True:=by simp [sL,isV,Value.oneCell']
theorem zCH (xs:List (List Int)):(∀ p ∈ iLL xs,zsG p = true) = True:=by simp [iLL,zsG]
theorem zyn (k:IntKind) (n:Int):(Value.int k n).oneCell' = true:=(rfl)
theorem zt4 (b:Bool):(Value.bool b).oneCell' = true:=(rfl)
theorem zmS (b:ByteArray):(Value.string b).oneCell' = true:=(rfl)
theorem zpP (a:Option Addr) (l c:Nat):(Value.slice a l c).oneCell' = true:=(rfl)
theorem zjH (s:St) (p:PV):s.put none p = s:=(rfl)
theorem zeY (s:St) (d:Option Nat) (p:PV):(s.put d p).rw = s.rw:=by cases d <;> rfl
theorem zt5 (s:St) (k:Nat) (r:Row):(s.row k r).sl = s.sl:=(rfl)
theorem zaF (s:St) (k:Nat) (r:Row):(s.row k r).rw k = r:=by simp [St.row]
theorem zas (s:St) (k j:Nat) (r:Row) (h:j ≠ k):(s.row k r).rw j = s.rw j:=by simp [St.row,h]
theorem zg3 (s:St) (ks:List Nat):(s.freeze ks).sl = s.sl:=(rfl)
theorem zg4 (s:St) (ks:List Nat) (k:Nat):(s.freeze ks).rw k = if k ∈ ks then frz (s.rw k) else s.rw k:=(rfl)
theorem zox (ver:Nat) (e sz:Nat) (fz:Bool) (c:List PV):frz ⟨ver,.sli e sz fz c⟩ = ⟨ver,.sli e sz true c⟩:=(rfl)
theorem zt6 (s:St) (t:Nat):s.ev (.tmp t) = s.sl t:=(rfl)
theorem zyo (s:St) (f:FuncId):s.ev (.func f) = .clo f []:=(rfl)
theorem zt7 (s:St) (k:IntKind) (n:Int):s.ev (.const (.int k n)) = .v (.int k n):=(rfl)
theorem zoy (s:St) (b:Bool):s.ev (.const (.bool b)) = .v (.bool b):=(rfl)
theorem zg5 (s:St) (b:ByteArray):s.ev (.const (.string b)) = .v (.string b):=(rfl)
theorem zt8 (s:St) (a:Option Addr) (l c:Nat):s.ev (.const (.slice a l c)) = .v (.slice a l c):=(rfl)
theorem zEq (s:St) (cs:List Value):s.ev (.const (.agg ⟨cs⟩)) = .ag (cs.map PV.v):=(rfl)
theorem zoz (args:List PV) (i:Nat):(St.init args).sl i = args.getD i .junk:=(rfl)
theorem zoA (args:List PV) (i:Nat):(St.init args).rw i = ⟨0,.dead⟩:=(rfl)
theorem zg6 {α:Type} (a:α) (l:List α) (d:α):(a :: l).getD 0 d = a:=(rfl)
theorem zg7 {α:Type} (a:α) (l:List α) (i:Nat) (d:α):(a :: l).getD (i + 1) d = l.getD i d:=(rfl)
theorem zjI {α:Type} (i:Nat) (d:α):([]:List α).getD i d = d:=(rfl)
theorem zjJ (s:St) (d:Nat) (kd:RK) (p:Nat→PV):zcI s d kd p = (s.row d ⟨(s.rw d).ver + 1,kd⟩).put (some d) (p ((s.rw d).ver + 1)):=(rfl)
theorem zjK (s:St) (d k:Nat) (kd:RK):zdm s d k kd = (s.row k ⟨(s.rw k).ver + 1,kd⟩).put (some d) (.own k ((s.rw k).ver + 1)):=(rfl)
structure Dm {α:Type} (K:α):Type
def kk {α:Type} (K:α) (_:Dm K:=⟨⟩):α:=K
theorem zCI {α β:Type} (K:α→β) (u:Dm K) (x:α):kk K u x = K x:=(rfl)
def evK (p:PV) (K:PV→Prop):Prop:=K p
theorem zI8 (v:Value) (K:PV→Prop):evK (.v v) K = K (.v v):=(rfl)
theorem zEr (fr:Bool) (z:Nat) (c:List PV) (K:PV→Prop):evK (.sl fr z c) K = K (.sl fr z c):=(rfl)
theorem zyp (j v:Nat) (K:PV→Prop):evK (.own j v) K = K (.own j v):=(rfl)
theorem zyq (j v o:Nat) (K:PV→Prop):evK (.ref j v o) K = K (.ref j v o):=(rfl)
theorem zt9 (fr:Bool) (c:List PV) (o:Nat) (K:PV→Prop):evK (.eref fr c o) K = K (.eref fr c o):=(rfl)
theorem zEs (c:List PV) (K:PV→Prop):evK (.ag c) K = K (.ag c):=(rfl)
theorem zyr (c:List PV) (K:PV→Prop):evK (.tup c) K = K (.tup c):=(rfl)
theorem zys (f:FuncId) (c:List PV) (K:PV→Prop):evK (.clo f c) K = K (.clo f c):=(rfl)
theorem zua (K:PV→Prop):evK .junk K = K .junk:=(rfl)
section
variable {P:Program} {T:Tab} {ops:Array Oper} {Q:AX→St→Prop} {s:St}
def zCJ (p:PV) (A B:Prop):Prop:=match p with | .v (.bool b)=>(b = true→A)∧(b = false→B) | _=>False
def c1 (b:Bool) (A B:Prop):Prop:=(b = true→A)∧(b = false→B)
def c2 (b:Bool) (A B:Prop):Prop:=(b = true→A)∧(b = false→B)
def d1 (b:Bool) (A B:Prop):Prop:=(b = false→A)∧(b = true→B)
def d2 (b:Bool) (A B:Prop):Prop:=(b = false→A)∧(b = true→B)
theorem zI9 (A B:Prop):c1 true (kk A) (kk B) = A:=by simp [c1,kk]
theorem zJa (A B:Prop):c1 false (kk A) (kk B) = B:=by simp [c1,kk]
theorem zJb (A B:Prop):c2 true (kk A) (kk B) = A:=by simp [c2,kk]
theorem zJc (A B:Prop):c2 false (kk A) (kk B) = B:=by simp [c2,kk]
theorem zJd (A B:Prop):d1 true (kk A) (kk B) = B:=by simp [d1,kk]
theorem zJe (A B:Prop):d1 false (kk A) (kk B) = A:=by simp [d1,kk]
theorem zJf (A B:Prop):d2 true (kk A) (kk B) = B:=by simp [d2,kk]
theorem zJg (A B:Prop):d2 false (kk A) (kk B) = A:=by simp [d2,kk]
theorem zEt (b:Bool) (A B:Prop):c1 b A B = c2 b A B:=(rfl)
theorem zEu (b:Bool) (A B:Prop):c2 b (kk A) (kk B) = ((b = true→A)∧(b = false→B)):=(rfl)
theorem zEv (b:Bool) (A B:Prop):d1 b A B = d2 b A B:=(rfl)
theorem zEw (b:Bool) (A B:Prop):d2 b (kk A) (kk B) = ((b = false→A)∧(b = true→B)):=(rfl)
theorem zmT (b:Bool) (A B:Prop):zCJ (.v (.bool b)) A B = c1 b A B:=(rfl)
theorem zub [zae]:cwp P T .skip Q s = Q .norm s:=(rfl)
theorem ziO [zae] (id:Nat):cwp P T (.region id ops false) Q s = zs2 P T ops ops.toList s (Q .norm):=(rfl)
theorem ziP [zae] (id:Nat):cwp P T (.region id ops true) Q s = (zld ops = true∧zfu P T ops [] ops.toList s (Q .norm)):=(rfl)
theorem zyt [zae] (x y:Code):cwp P T (.seq x y) Q s = cwp P T x (AX.seq (cwp P T y Q) Q) s:=(rfl)
theorem zuc [zae] (c:Operand) (x y:Code):cwp P T (.cond c x y) Q s = zCJ (s.ev c) (kk (cwp P T x Q s)) (kk (cwp P T y Q s)):=(rfl)
theorem zpQ [zae] (id:Nat) (x:Code):cwp P T (.block id x) Q s = cwp P T x (AX.blk id Q) s:=(rfl)
theorem zud [zae] (x:Code):cwp P T (.loop x) Q s = zrA (kk (cwp P T x)) (kk Q) s:=(rfl)
theorem zue [zae] (id:Nat):cwp P T (.exit id) Q s = Q (.exit id) s:=(rfl)
theorem zyu [zae]:cwp P T .ret Q s = Q .ret s:=(rfl)
theorem zpR [zae] (l:Nat):cwp P T (.label l) Q s = Q .norm s:=(rfl)
variable {K:St→Prop}
theorem zuf:AX.seq K Q .norm s = K s:=(rfl)
theorem zyv:AX.seq K Q .ret s = Q .ret s:=(rfl)
theorem zug (id:Nat):AX.seq K Q (.exit id) s = Q (.exit id) s:=(rfl)
theorem zuh (id:Nat):AX.blk id Q .norm s = Q .norm s:=(rfl)
theorem zyw (id:Nat):AX.blk id Q .ret s = Q .ret s:=(rfl)
theorem zg8 (id:Nat):AX.blk id Q (.exit id) s = Q .norm s:=by simp [AX.blk]
theorem zkj (id i:Nat) (h:i ≠ id):AX.blk id Q (.exit i) s = Q (.exit i) s:=by simp [AX.blk,h]
theorem zui (rs:List ResultVar) (rv:RV):zKD T rs rv .ret s = zwY T s rs rv:=(rfl)
theorem zpS (rs:List ResultVar) (rv:RV):zKD T rs rv .norm s = zwY T s rs rv:=(rfl)
theorem zuj [zae]:zs2 P T ops [] s K = K s:=(rfl)
theorem zkk:∀ (n:Nat) (p:Nat→Bool),(∀ k,k < n→p k = true)→zc2 n p = true:=by
 intro n
 induction n with
 | zero=>intro p _;rfl
 | succ n ih=>intro p h;simp only [zc2,Bool.and_eq_true];exact ⟨h n (by omega),ih p fun k hk=>h k (by omega)⟩
def clr (e:Ent):List Ent→Bool | []=>true | e' :: l=>!znV e' e && clr e l
def zg9:List Ent→Bool | []=>true | e :: l=>clr e l && zg9 l
theorem zsN:∀ {l:List Ent},zg9 l = true→l.Pairwise fun a b=>znV b a = false:=by
 intro l
 induction l with
 | nil=>intro _;exact .nil
 | cons e l ih =>
   intro h
   simp only [zg9,Bool.and_eq_true] at h
   refine List.pairwise_cons.2 ⟨?_,ih h.2⟩
   have:∀ l':List Ent,clr e l' = true→∀ b ∈ l',znV b e = false:=by
    intro l'
    induction l' with
    | nil=>intro _ b hb;cases hb
    | cons x l' ih' =>
      intro h b hb
      simp only [clr,Bool.and_eq_true,Bool.not_eq_true'] at h
      rcases List.mem_cons.1 hb with rfl | hb
      ·exact h.1
      ·exact ih' h.2 b hb
   exact this l h.1
theorem zwS [zae] {l:List Ent} (h:zg9 l = true):zmw ops l.reverse = true:=by
 have hp:l.reverse.Pairwise fun a b=>znV a b = false:=List.pairwise_reverse.2 (zsN h)
 unfold zmw
 refine zkk _ _ fun j hj=>zkk _ _ fun i hi=>?_
 split
 ·rename_i a b ha hb
  obtain ⟨h1,rfl⟩:=List.getElem?_eq_some_iff.1 ha
  obtain ⟨h2,rfl⟩:=List.getElem?_eq_some_iff.1 hb
  have:=List.pairwise_iff_getElem.1 hp i j h1 h2 hi
  rw [this];rfl
 ·rfl
def zyx (ops:Array Oper) (acc:List Ent) (A:Prop):Prop:=zmw ops acc.reverse = true∧A
def lnK (b:Bool) (ops:Array Oper) (acc:List Ent) (A:Prop):Prop:=match b with | true=>A | false=>zmw ops acc.reverse = true∧A
theorem zpT [zae] (acc:List Ent) (A:Prop):zyx ops acc (kk A) = lnK (zg9 acc) ops acc (kk A):=by
 unfold zyx lnK
 cases h:zg9 acc with
 | true=>simp [zwS h,kk]
 | false=>rfl
theorem zJh (acc:List Ent) (A:Prop):lnK true ops acc (kk A) = A:=(rfl)
theorem zJi (acc:List Ent) (A:Prop):lnK false ops acc (kk A) = (zmw ops acc.reverse = true∧A):=(rfl)
theorem zEx:zg9 [] = true:=(rfl)
theorem zyy (e:Ent) (l:List Ent):zg9 (e :: l) = (clr e l && zg9 l):=(rfl)
theorem zyz (e:Ent):clr e [] = true:=(rfl)
theorem zuk (e e':Ent) (l:List Ent):clr e (e' :: l) = (!znV e' e && clr e l):=(rfl)
def zpF (l:List Nat) (t:Tc):Bool:=l.any t.has
theorem zul (t:Tc):zpF [] t = false:=(rfl)
theorem zpU (k:Nat) (l:List Nat) (t:Tc):zpF (k :: l) t = (t.has k || zpF l t):=(rfl)
theorem zyA (k:Nat):(Tc.ids []).has k = false:=(rfl)
theorem zum (a:Nat) (l:List Nat) (k:Nat):(Tc.ids (a :: l)).has k = (a % 1000 == k % 1000 || (Tc.ids l).has k):=(rfl)
theorem zyB (d k:Nat):(Tc.res d).has k = (k % 1000 == d % 1000):=(rfl)
theorem zEy (a b:List Nat):znV ⟨a,.ids []⟩ ⟨b,.ids []⟩ = false:=by
 have e:∀ l:List Nat,l.any (Tc.ids []).has = false:=fun l=>by
  rw [List.any_eq_false];intro x _;simp [Tc.has]
 simp [znV,e,zgp]
theorem zyC (a b t u:List Nat):znV ⟨a,.ids t⟩ ⟨b,.ids u⟩ = (zpF a (.ids u) || (zpF b (.ids t) || zpF t (.ids u))):=by simp [znV,zpF,zgp,Bool.or_assoc]
theorem zyD (a b t:List Nat) (d:Nat):znV ⟨a,.ids t⟩ ⟨b,.res d⟩ = (zpF a (.res d) || (zpF b (.ids t) || zpF t (.res d))):=by simp [znV,zpF,zgp,Bool.or_assoc]
theorem zyE (a b t:List Nat) (d:Nat):znV ⟨a,.res d⟩ ⟨b,.ids t⟩ = (zpF a (.ids t) || (zpF b (.res d) || zpF t (.res d))):=by simp [znV,zpF,zgp,Bool.or_assoc]
theorem zyF (a b:List Nat) (d d':Nat):znV ⟨a,.res d⟩ ⟨b,.res d'⟩ = (zpF a (.res d') || (zpF b (.res d) || (d % 1000 == d' % 1000))):=by simp [znV,zpF,zgp,Bool.or_assoc]
theorem zpV [zae] (acc:List Ent):zfu P T ops acc [] s K = zyx ops acc (kk (K s)):=(rfl)
def gK (d:Option Nat) (want:Bool) (s:St) (A B:Nat→Prop) (N:Prop):Prop :=
 match d with
 | some d=>(match s.sl d with | .v (.bool b)=>(b = want→A d)∧(b = !want→B d) | .v (.tuple _)=>N | _=>False)
 | none=>False
def gK1 (want:Bool) (p:PV) (A B N:Prop):Prop:=match p with | .v (.bool b)=>(b = want→A)∧(b = !want→B) | .v (.tuple _)=>N | _=>False
theorem zyG (d:Nat) (want:Bool) (A B:Nat→Prop) (N:Prop):gK (some d) want s A B N = gK1 want (s.sl d) (kk (A d)) (kk (B d)) N:=(rfl)
theorem zpW (want:Bool) (A B N:Prop):gK1 want (.v undef) A B (kk N) = N:=(rfl)
theorem zun (b:Bool) (A B N:Prop):gK1 true (.v (.bool b)) A B N = c1 b A B:=(rfl)
theorem zpX (b:Bool) (A B N:Prop):gK1 false (.v (.bool b)) A B N = d1 b A B:=(rfl)
theorem zpY [zae] {dst:Option Nat} {op:Op} {ty:TypeId} {pos:String} {af:Array Edge} {os:List Oper} :
 zs2 P T ops (⟨dst,op,ty,pos,af,none⟩ :: os) s K = zd2 P T s ⟨dst,op,ty,pos,af,none⟩ (fun s2=>zs2 P T ops os s2 K):=(rfl)
theorem zmU [zae] {dst:Option Nat} {op:Op} {ty:TypeId} {pos:String} {af:Array Edge} {j:Nat} {want:Bool} {os:List Oper} :
 zs2 P T ops (⟨dst,op,ty,pos,af,some (j,want)⟩ :: os) s K = gK ((ops[j]?).bind (·.dst)) want s
  (kk fun d=>zd2 P T (s.put (some d) (.v (.bool want))) ⟨dst,op,ty,pos,af,some (j,want)⟩ (fun s2=>zs2 P T ops os s2 K))
  (kk fun d=>zs2 P T ops os ((s.put (some d) (.v (.bool !want))).put dst (.v undef)) K) (kk (zs2 P T ops os (s.put dst (.v undef)) K)):=(rfl)
theorem zEz (l:List Oper) (j:Nat):((⟨l⟩:Array Oper)[j]?) = l[j]?:=by simp
theorem getElem?_zero {α:Type} (a:α) (l:List α):(a :: l)[0]? = some a:=(rfl)
theorem getElem?_succ {α:Type} (a:α) (l:List α) (i:Nat):(a :: l)[i + 1]? = l[i]?:=(rfl)
theorem zpZ (o:Oper):(some o).bind (·.dst) = o.dst:=(rfl)
theorem zmV [zae] {dst:Option Nat} {op:Op} {ty:TypeId} {pos:String} {af:Array Edge} {os:List Oper} (acc:List Ent) :
 zfu P T ops acc (⟨dst,op,ty,pos,af,none⟩ :: os) s K = dK P T s ⟨dst,op,ty,pos,af,none⟩ (kk fun e s2=>zfu P T ops (e :: acc) os s2 K):=(rfl)
theorem zkl [zae] {dst:Option Nat} {op:Op} {ty:TypeId} {pos:String} {af:Array Edge} {j:Nat} {want:Bool} {os:List Oper} (acc:List Ent) :
 zfu P T ops acc (⟨dst,op,ty,pos,af,some (j,want)⟩ :: os) s K = gK ((ops[j]?).bind (·.dst)) want s
  (kk fun d=>dK P T (s.put (some d) (.v (.bool want))) ⟨dst,op,ty,pos,af,some (j,want)⟩ (kk fun e s2=>zfu P T ops (e :: acc) os s2 K))
  (kk fun d=>zfu P T ops (⟨[],.ids []⟩ :: acc) os ((s.put (some d) (.v (.bool !want))).put dst (.v undef)) K) (kk (zfu P T ops (⟨[],.ids []⟩ :: acc) os (s.put dst (.v undef)) K)):=(rfl)
def zdk (l:List PV) (acc:List Nat) (Kn:List Nat→Prop):Prop:=Kn (acc ++ l.flatMap zew)
def zpG (l:List PV) (acc:List Nat) (Kn:List Nat→Prop):Prop:=Kn (acc ++ l.flatMap zFe)
section
variable (l:List PV) (acc:List Nat) (Kn:List Nat→Prop)
theorem zuo:zdk [] acc (kk Kn) = Kn acc:=by simp [zdk,kk]
theorem zEA (x:Value):zdk (.v x :: l) acc (kk Kn) = zdk l acc (kk Kn):=(rfl)
theorem zyH (fr:Bool) (z:Nat) (c:List PV):zdk (.sl fr z c :: l) acc (kk Kn) = zdk l acc (kk Kn):=(rfl)
theorem zp0 (fr:Bool) (c:List PV) (o:Nat):zdk (.eref fr c o :: l) acc (kk Kn) = zdk l acc (kk Kn):=(rfl)
theorem zup (f:FuncId) (c:List PV):zdk (.clo f c :: l) acc (kk Kn) = zdk l acc (kk Kn):=(rfl)
theorem zuq (c:List PV):zdk (.tup c :: l) acc (kk Kn) = zdk l acc (kk Kn):=(rfl)
theorem zp1:zdk (.junk :: l) acc (kk Kn) = zdk l acc (kk Kn):=(rfl)
theorem zur (k v:Nat):zdk (.own k v :: l) acc (kk Kn) = zdk l (acc ++ [k % 1000]) (kk Kn):=by simp [zdk,kk,zew,List.flatMap_cons]
theorem zus (k v o:Nat):zdk (.ref k v o :: l) acc (kk Kn) = zdk l (acc ++ [k % 1000]) (kk Kn):=by simp [zdk,kk,zew,List.flatMap_cons]
theorem zyI (c:List PV):zdk (.ag c :: l) acc (kk Kn) = zpG c acc (kk fun acc'=>zdk l acc' (kk Kn)):=by simp [zdk,zpG,kk,zew,List.flatMap_cons]
theorem zut:zpG [] acc (kk Kn) = Kn acc:=by simp [zpG,kk]
theorem zEB (x:Value):zpG (.v x :: l) acc (kk Kn) = zpG l acc (kk Kn):=(rfl)
theorem zyJ (fr:Bool) (z:Nat) (c:List PV):zpG (.sl fr z c :: l) acc (kk Kn) = zpG l acc (kk Kn):=(rfl)
theorem zp2 (fr:Bool) (c:List PV) (o:Nat):zpG (.eref fr c o :: l) acc (kk Kn) = zpG l acc (kk Kn):=(rfl)
theorem zuu (f:FuncId) (c:List PV):zpG (.clo f c :: l) acc (kk Kn) = zpG l acc (kk Kn):=(rfl)
theorem zuv (k v:Nat):zpG (.own k v :: l) acc (kk Kn) = zpG l (acc ++ [k % 1000]) (kk Kn):=by simp [zpG,kk,zFe,List.flatMap_cons]
theorem zuw (k v o:Nat):zpG (.ref k v o :: l) acc (kk Kn) = zpG l (acc ++ [k % 1000]) (kk Kn):=by simp [zpG,kk,zFe,List.flatMap_cons]
end
def zfd (rw:Nat→Row) (n:Nat) (l:List PV) (acc:List Nat) (Kn:List Nat→Prop):Prop:=Kn (acc ++ l.flatMap (zeg rw n))
def zkm (r:Row) (rw:Nat→Row) (n:Nat) (acc:List Nat) (Kn:List Nat→Prop):Prop:=Kn (acc ++ (match r.kind with | .box _ c=>c.flatMap (zeg rw n) | _=>[]))
def zkn (r:Row) (k:Nat) (acc:List Nat) (Kn:List Nat→Prop):Prop:=Kn (acc ++ (match r.kind with | .tab _ c=>zsW k c | _=>[]))
section
variable (rw:Nat→Row) (n:Nat) (l:List PV) (acc:List Nat) (Kn:List Nat→Prop)
theorem zux:zfd rw n [] acc (kk Kn) = Kn acc:=by simp [zfd,kk]
theorem zp3:zfd rw 0 l acc (kk Kn) = Kn acc:=by
 have:l.flatMap (zeg rw 0) = []:=by simp [zeg]
 unfold zfd kk
 rw [this,List.append_nil]
theorem zEC (x:Value):zfd rw (n + 1) (.v x :: l) acc (kk Kn) = zfd rw (n + 1) l acc (kk Kn):=by simp [zfd,zeg,List.flatMap_cons]
theorem zyK (fr:Bool) (z:Nat) (c:List PV):zfd rw (n + 1) (.sl fr z c :: l) acc (kk Kn) = zfd rw (n + 1) l acc (kk Kn):=by simp [zfd,zeg,List.flatMap_cons]
theorem zp4 (fr:Bool) (c:List PV) (o:Nat):zfd rw (n + 1) (.eref fr c o :: l) acc (kk Kn) = zfd rw (n + 1) l acc (kk Kn):=by simp [zfd,zeg,List.flatMap_cons]
theorem zp5:zfd rw (n + 1) (.junk :: l) acc (kk Kn) = zfd rw (n + 1) l acc (kk Kn):=by simp [zfd,zeg,List.flatMap_cons]
theorem zuy (k v:Nat):zfd rw (n + 1) (.own k v :: l) acc (kk Kn) = zkn (rw k) k (acc ++ [k % 1000]) (kk fun acc'=>zfd rw (n + 1) l acc' (kk Kn)):=by
 simp only [zfd,zkn,kk,List.flatMap_cons]
 rw [zeg]
 cases (rw k).kind <;> simp
theorem zmW (k ver e z:Nat) (fz:Bool) (c:List PV):zkn ⟨ver,.sli e z fz c⟩ k acc (kk Kn) = Kn acc:=by simp [zkn,kk]
theorem zmX (k ver:Nat):zkn ⟨ver,.nil⟩ k acc (kk Kn) = Kn acc:=by simp [zkn,kk]
theorem zmY (k ver e:Nat) (c:List PV):zkn ⟨ver,.tab e c⟩ k acc (kk Kn) = Kn (acc ++ zsW k c):=(rfl)
theorem zko [zae] (k:Nat) (p:List Nat):zsW k (zaI k p) = []:=by
 unfold zsW zaI
 rw [List.flatMap_eq_nil_iff]
 intro q hq
 obtain ⟨j,_,rfl⟩:=List.mem_map.1 hq
 simp [zdg]
theorem zp6 (rw':Nat→Row) (k m:Nat):zsW k (zaT rw' k 0 m) = []:=by
 unfold zsW zaT
 rw [List.flatMap_eq_nil_iff]
 intro q hq
 obtain ⟨j,_,rfl⟩:=List.mem_map.1 hq
 simp [zan]
theorem zyL (c:List PV):zfd rw (n + 1) (.ag c :: l) acc (kk Kn) = zfd rw n c acc (kk fun acc'=>zfd rw (n + 1) l acc' (kk Kn)):=by simp [zfd,zeg,List.flatMap_cons,kk]
theorem zuz (f:FuncId) (c:List PV):zfd rw (n + 1) (.clo f c :: l) acc (kk Kn) = zfd rw n c acc (kk fun acc'=>zfd rw (n + 1) l acc' (kk Kn)):=by simp [zfd,zeg,List.flatMap_cons,kk]
theorem zuA (k v o:Nat):zfd rw (n + 1) (.ref k v o :: l) acc (kk Kn) = zkm (rw k) rw n (acc ++ [k % 1000]) (kk fun acc'=>zfd rw (n + 1) l acc' (kk Kn)):=by
 simp only [zfd,zkm,kk,List.flatMap_cons]
 rw [zeg]
 cases (rw k).kind <;> simp
theorem zmZ (ver:Nat) (t:TypeId) (c:List PV):zkm ⟨ver,.box t c⟩ rw n acc (kk Kn) = zfd rw n c acc (kk Kn):=(rfl)
theorem zm0 (ver e z:Nat) (fz:Bool) (c:List PV):zkm ⟨ver,.sli e z fz c⟩ rw n acc (kk Kn) = Kn acc:=by simp [zkm,kk]
theorem zm1 (ver:Nat):zkm ⟨ver,.nil⟩ rw n acc (kk Kn) = Kn acc:=by simp [zkm,kk]
end
section
variable {dst:Option Nat} {ty:TypeId} {pos:String} {af:Array Edge} {g:Option (Nat × Bool)}
theorem zuB [zae] (x:Operand):opK P T s ⟨dst,.move x,ty,pos,af,g⟩ K = evK (s.ev x) (kk fun p=>K (s.put dst p)):=(rfl)
theorem zgh [zae] (t:Nat):opK P T s ⟨dst,.assign (.tmp t),ty,pos,af,g⟩ K = evK (s.sl t) (kk fun p=>K (s.put dst p)):=(rfl)
theorem zgi [zae] (k:IntKind) (n:Int):opK P T s ⟨dst,.assign (.const (.int k n)),ty,pos,af,g⟩ K = K (s.put dst (.v (.int k n))):=(rfl)
theorem zfn [zae] (b:Bool):opK P T s ⟨dst,.assign (.const (.bool b)),ty,pos,af,g⟩ K = K (s.put dst (.v (.bool b))):=(rfl)
theorem zea [zae] (b:ByteArray):opK P T s ⟨dst,.assign (.const (.string b)),ty,pos,af,g⟩ K = K (s.put dst (.v (.string b))):=(rfl)
theorem zgj [zae] (cs:List Value):opK P T s ⟨dst,.assign (.const (.agg ⟨cs⟩)),ty,pos,af,g⟩ K = K (s.put dst (.ag (cs.map PV.v))):=(rfl)
def nilRow (T:Tab) (k:TK):RK:=match k with | .sli e=>.sli e (T e).size false [] | _=>.nil
theorem zm2 (e:TypeId):nilRow T (.sli e) = .sli e (T e).size false []:=(rfl)
theorem zgk [zae] (d:Nat):opK P T s ⟨some d,.assign (.const (.slice none 0 0)),ty,pos,af,g⟩ K = K (zcI s d (nilRow T (T ty).k) fun v=>.own d v):=(rfl)
theorem zuC [zae] (c x y:Operand):opK P T s ⟨dst,.pick c x y,ty,pos,af,g⟩ K = zCJ (s.ev c) (kk (evK (s.ev x) (kk fun p=>K (s.put dst p)))) (kk (evK (s.ev y) (kk fun p=>K (s.put dst p)))):=(rfl)
theorem zyM [zae] (op:BinOp) (t t2:TypeId) (x y:Operand):opK P T s ⟨dst,.binOp op t x y t2,ty,pos,af,g⟩ K = zde T op t (s.ev x) (s.ev y) (kk fun p=>K (s.put dst p)):=(rfl)
theorem zED [zae] (op:UnOp) (t:TypeId) (x:Operand):opK P T s ⟨dst,.unOp op t x,ty,pos,af,g⟩ K = unK op (s.ev x) (kk fun p=>K (s.put dst p)):=(rfl)
theorem zkp [zae] (a b:TypeId) (x:Operand):opK P T s ⟨dst,.convert a b x,ty,pos,af,g⟩ K = zgd T s.rw a b (s.ev x) (kk fun p=>K (s.put dst p)):=(rfl)
theorem zuD [zae] (t:TypeId) (x:Operand):opK P T s ⟨dst,.load t x,ty,pos,af,g⟩ K = zsH s.rw (s.ev x) (kk fun m c off=>ldK T t m c off (kk fun p=>K (s.put dst p))):=(rfl)
theorem zha [zae] (t:TypeId) (x:Operand) (f:Nat):opK P T s ⟨dst,.fieldAddr t x f,ty,pos,af,g⟩ K =
 zdS T t f (kk fun o _=>zls (s.ev x) = true∧zdB s.rw (s.ev x) (kk (evK (zek (s.ev x) o) (kk fun p=>K (s.put dst p))))):=(rfl)
def agK (p:PV) (K:List PV→Prop):Prop:=match p with | .ag c=>K c | _=>False
theorem zEE (c:List PV) (Kc:List PV→Prop):agK (.ag c) Kc = Kc c:=(rfl)
def zKR (p:PV) (K:List PV→Prop):Prop:=match p with | .tup c=>K c | _=>False
theorem zuE (c:List PV) (Kc:List PV→Prop):zKR (.tup c) Kc = Kc c:=(rfl)
theorem zkq [zae] (t:TypeId) (x:Operand) (f:Nat):opK P T s ⟨dst,.field t x f,ty,pos,af,g⟩ K =
 agK (s.ev x) (kk fun c=>zdS T t f (kk fun o ft=>ldK T ft .asis c o (kk fun p=>K (s.put dst p)))):=by
 show zdS T t f (fun o ft=>(match s.ev x with | .ag c=>ldK T ft .asis c o fun p=>K (s.put dst p) | _=>False)) = _
 unfold zdS agK kk
 cases s.ev x
 case ag c=>rfl
 all_goals
  refine propext ⟨fun h=>?_,fun h=>h.elim⟩
  obtain ⟨_,h⟩:=h
  split at h
  ·split at h
   ·exact h.2.elim
   ·exact h.elim
  ·exact h.elim
theorem zm3 [zae] (t:TypeId) (x i:Operand):opK P T s ⟨dst,.lookup t x i false,ty,pos,af,g⟩ K = zjo T s.rw t (s.ev x) (s.ev i) (kk fun p=>K (s.put dst p)):=by
 show (false = false∧zjo T s.rw t (s.ev x) (s.ev i) (fun p=>K (s.put dst p))) = _
 simp [kk]
theorem zkr [zae] (d:Nat) (t:TypeId):opK P T s ⟨some d,.makeMap t none,ty,pos,af,g⟩ K = K (zcI s d (.mp fun _=>0) fun v=>.own d v):=(rfl)
theorem zhb [zae] (t:TypeId) (m x y:Operand):opK P T s ⟨none,.mapUpdate t m x y,ty,pos,af,g⟩ K = zHU T s t (s.ev m) (s.ev x) (s.ev y) (kk K):=by
 show ((none:Option Nat) = none∧zHU T s t (s.ev m) (s.ev x) (s.ev y) K) = _
 simp [kk]
theorem zhc [zae] (t:TypeId) (x i:Operand):opK P T s ⟨dst,.indexAddr t x i,ty,pos,af,g⟩ K = zbp T s.rw t (s.ev x) (s.ev i) (kk fun p=>K (s.put dst p)):=(rfl)
def zuF (T:Tab) (t:TypeId) (x i:PV) (K:PV→Prop):Prop:=0 < (T t).size∧(match (T t).k,x,i with
 | .str,.v (.string s),.v (.int _ n)=>0 ≤ n∧n.toNat < s.size∧K (.v (.int .u8 ((s.data.toList.getD n.toNat 0).toNat:Int)))
 | .arr len e,.ag c,.v (.int _ n)=>0 ≤ n∧n < len∧ldK T e .asis c (n.toNat * (T e).size) K
 | _,_,_=>False)
theorem zp7 [zae] (t:TypeId) (x i:Operand):opK P T s ⟨dst,.index t x i,ty,pos,af,g⟩ K = zuF T t (s.ev x) (s.ev i) (kk fun p=>K (s.put dst p)):=(rfl)
theorem zks [zae] (x:Operand) (i:Nat):opK P T s ⟨dst,.extract x i,ty,pos,af,g⟩ K = zKR (s.ev x) (kk fun ps=>i < ps.length∧evK (ps.getD i .junk) (kk fun p=>K (s.put dst p))):=(rfl)
theorem ziQ [zae] (x:Operand):opK P T s ⟨dst,.nilCheck x,ty,pos,af,g⟩ K = zdB s.rw (s.ev x) (kk (evK (s.ev x) (kk fun p=>K (s.put dst p)))):=(rfl)
theorem ziR [zae] (f:FuncId) (caps:Array Operand):opK P T s ⟨dst,.makeFunc (.func f) #[] caps,ty,pos,af,g⟩ K = K (s.put dst (.clo f (caps.toList.map s.ev))):=by
 show (#[] = (#[]:Array Operand)∧K (s.put dst (.clo f (caps.toList.map s.ev)))) = _
 simp
theorem zyN [zae] (x:Operand) (t:TypeId):opK P T s ⟨dst,.call ⟨.builtin .len,#[x],#[t]⟩,ty,pos,af,g⟩ K = zAK T s.rw t (s.ev x) (kk fun p=>K (s.put dst p)):=(rfl)
theorem zyO [zae] (x y:Operand) (ts:Array TypeId):opK P T s ⟨dst,.call ⟨.builtin .max,#[x,y],ts⟩,ty,pos,af,g⟩ K = zcQ true (s.ev x) (s.ev y) (kk fun p=>K (s.put dst p)):=(rfl)
theorem zyP [zae] (x y:Operand) (ts:Array TypeId):opK P T s ⟨dst,.call ⟨.builtin .min,#[x,y],ts⟩,ty,pos,af,g⟩ K = zcQ false (s.ev x) (s.ev y) (kk fun p=>K (s.put dst p)):=(rfl)
theorem zm4 [zae] (d:Nat) (x y:Operand) (t t2:TypeId):opK P T s ⟨some d,.call ⟨.builtin .append,#[x,y],#[t,t2]⟩,ty,pos,af,g⟩ K = zlk T s d t t2 (s.ev x) (s.ev y) (kk K):=(rfl)
def zCy (p:PV) (K:FuncId→List PV→Prop):Prop:=match p with | .clo g caps=>K g caps | _=>False
theorem zuG (g:FuncId) (c:List PV) (Kc:FuncId→List PV→Prop):zCy (.clo g c) Kc = Kc g c:=(rfl)
def ziS [zae] (P:Program) (f:FuncId) (args:List PV) (K:RV→Prop) (M:Prop):Prop:=(∃ rv,AC P f args rv∧K rv) ∨ M
theorem zab [zae] {f:FuncId} {args:List PV} {Kr:RV→Prop} {u:Dm Kr} {rv:RV} {M:Prop} (h:AC P f args rv) (hk:Kr rv):ziS P f args (kk Kr u) M:=.inl ⟨rv,h,hk⟩
def zsO [zae] (P:Program) (f:FuncId) (args raw:List PV) (dst:Option Nat) (s:St) (K:St→Prop):Prop:=zMI P s f raw dst K ∨ zKH P s f raw dst K ∨ zGg P s f args dst K ∨ askG P s f raw dst K
theorem zkt [zae] {f:FuncId} {args raw lent:List PV} {ins:List LR} {outs:List (List PV)} {x:Value} {Ka:RV→Prop} {dst:Option Nat} {us:Dm s} {u:Dm K} (h:AM P f args ins outs x) (js:List (Nat × Nat))
 (hg:GiveL js raw args) (hh:zoX s.rw js ins) (hn:(js.map (·.1)).Nodup) (hk:K ((s.wrote js ins outs).put dst (.v x))):ziS P f lent Ka (zsO P f lent raw dst (kk s us) (kk K u)):=.inr (.inl ⟨js,ins,args,outs,x,h,hg,hh,hn,hk⟩)
theorem zFW [zae] {f:FuncId} {args raw lent:List PV} {k v e e2:Nat} {p:List Nat} {rows rows':List (List PV)} {res:TR} {Ka:RV→Prop} {dst:Option Nat} {us:Dm s} {u:Dm K} (h:AT P f args e e2 rows rows' res)
 (hg:GiveL [(k,v)] raw args) (ht:TabIs s.rw k v e e2 p rows) (hn:p.Nodup)
 (hk:∀ p':List Nat,p'.Perm p→res.next (s.tabbed k v e e2 p' rows') k v dst K):ziS P f lent Ka (zsO P f lent raw dst (kk s us) (kk K u)) :=
 .inr (.inr (.inl ⟨k,v,e,e2,p,rows,rows',args,res,h,hg,ht,hn,hk⟩))
theorem zCK [zae] {f:FuncId} {args raw:List PV} {Ka:RV→Prop} {d:Nat} {us:Dm s} {u:Dm K} {rv:RV} (s':St) (h:AC P f args rv) (hw:Wk (zao s d rv) s') (hk:K s'):ziS P f args Ka (zsO P f args raw (some d) (kk s us) (kk K u)) :=
 .inr (.inr (.inr (.inl ⟨rv,s',h,hw,hk⟩)))
theorem zyQ [zae] {f:FuncId} {args raw lent:List PV} {R0:Nat→Row} {post:(Nat→Row)→PV→Prop} {Ka:RV→Prop} {dst:Option Nat} {us:Dm s} {u:Dm K} (h:AG P f args R0 post) (rho:Nat→Option Nat) (Ln:Nat→Prop) (hl:GvL rho Ln R0 s.rw args raw) (hg:Give rho Ln R0 s.rw)
 (hk:∀ R1 p,post R1 p→∃ (rho1:Nat→Option Nat) (nv:Nat→Nat) (nl:Bool),Back rho rho1 R1 nv nl Ln R0 s.rw∧∀ S:St,After s S dst rho1 nv nl R1 p→K S):ziS P f lent Ka (zsO P f lent raw dst (kk s us) (kk K u)) :=
 .inr (.inr (.inr (.inr ⟨args,R0,post,rho,Ln,h,hl,hg,hk⟩)))
def zib (s:St) (l:List Operand):List PV:=l.map fun x=>zcC s.rw zgc (s.ev x)
theorem zp8:zib s [] = []:=(rfl)
theorem zm5 (x:Operand) (l:List Operand):zib s (x :: l) = zcC s.rw 3 (s.ev x) :: zib s l:=(rfl)
def zyR (s:St) (l:List Operand):List PV:=l.map s.ev
theorem zuH:zyR s [] = []:=(rfl)
theorem zp9 (x:Operand) (l:List Operand):zyR s (x :: l) = s.ev x :: zyR s l:=(rfl)
theorem zCL [zae] (f:Operand) (args:List Operand) (Kr:RV→Prop):zeB P s.rw s.ev f ⟨args⟩ Kr = zCy (s.ev f) (kk fun g caps=>ziS P g (zib s args ++ caps.map (zcC s.rw 3)) (kk Kr) False):=by
 unfold zeB zCy ziS
 cases s.ev f <;> first | rfl | simp [kk,zib,zgc]
theorem zuI [zae] (f:Operand) (args:List Operand) (Kr:RV→Prop) (dst:Option Nat):((zeB P s.rw s.ev f ⟨args⟩ Kr ∨ zAt P s f ⟨args⟩ dst K) ∨ (match s.ev f with
 | .clo g caps=>zKH P s g (args.map s.ev ++ caps) dst K ∨ zGg P s g ((args.map fun x=>zcC s.rw zgc (s.ev x)) ++ caps.map (zcC s.rw zgc)) dst K ∨ askG P s g (args.map s.ev ++ caps) dst K
 | _=>False)) =
 zCy (s.ev f) (kk fun g caps=>ziS P g (zib s args ++ caps.map (zcC s.rw 3)) (kk Kr) (zsO P g (zib s args ++ caps.map (zcC s.rw 3)) (zyR s args ++ caps) dst (kk s) (kk K))):=by
 unfold zeB zAt zCy
 cases s.ev f <;> first | (simp;done) | skip
 unfold kk ziS zsO
 exact propext or_assoc
theorem zqa [zae] (d:Nat) (f:Operand) (args:List Operand) (ts:Array TypeId):zd2 P T s ⟨some d,.call ⟨.value f,⟨args⟩,ts⟩,ty,pos,af,g⟩ K =
 zCy (s.ev f) (kk fun g caps=>ziS P g (zib s args ++ caps.map (zcC s.rw 3)) (kk fun rv=>K (zao s d rv)) (zsO P g (zib s args ++ caps.map (zcC s.rw 3)) (zyR s args ++ caps) (some d) (kk s) (kk K))):=zuI (P:=P) f args _ _
theorem zgl [zae] (f:Operand) (args:List Operand) (ts:Array TypeId):zd2 P T s ⟨none,.call ⟨.value f,⟨args⟩,ts⟩,ty,pos,af,g⟩ K =
 zCy (s.ev f) (kk fun g caps=>ziS P g (zib s args ++ caps.map (zcC s.rw 3)) (kk fun _=>K s) (zsO P g (zib s args ++ caps.map (zcC s.rw 3)) (zyR s args ++ caps) none (kk s) (kk K))):=zuI (P:=P) f args _ _
theorem zqb [zae] (b:Builtin) (args:Array Operand) (ts:Array TypeId) (h:(match b with | .append=>false | _=>true) = true):zd2 P T s ⟨dst,.call ⟨.builtin b,args,ts⟩,ty,pos,af,g⟩ K = opK P T s ⟨dst,.call ⟨.builtin b,args,ts⟩,ty,pos,af,g⟩ K:=by
 cases b <;> first | rfl | cases h
theorem zqc [zae] (d:Nat) (t:TypeId):opK P T s ⟨some d,.alloc t,ty,pos,af,g⟩ K = (0 < (T t).size∧K (zcI s d (.box t ((T t).zero.map PV.v)) fun v=>.ref d v 0)):=(rfl)
theorem zyS [zae] (d:Nat) (t:TypeId) (x:Operand):opK P T s ⟨some d,.box t x,ty,pos,af,g⟩ K = za1 s.rw (s.ev x) (kk fun c=>K (zcI s d (.box t c) fun v=>.ref d v 0)):=(rfl)
def evs (s:St) (l:List (Nat × Operand)):List PV:=l.map fun x=>s.ev x.2
theorem zyT:evs s [] = []:=(rfl)
theorem zuJ (n:Nat) (x:Operand) (l:List (Nat × Operand)):evs s ((n,x) :: l) = s.ev x :: evs s l:=(rfl)
def zyU (T:Tab) (s:St) (d:Nat) (kd:TK) (z n:Nat) (parts:List (Nat × Operand)) (K:St→Prop):Prop :=
 0 < z∧match kd with
 | .sli e=>0 < (T e).size∧n = parts.length∧zoY 0 parts = true∧n * (T e).size ≤ 16777216 ∧
  zmy s.rw (T e).size (evs s parts) fun c f=>d ∉ f∧K (((s.freeze f).row d ⟨(s.rw d).ver + 1,.sli e (T e).size false c⟩).put (some d) (.own d ((s.rw d).ver + 1)))
 | _=>False
theorem zgm [zae] (d:Nat) (t:TypeId) (n:Nat) (parts:List (Nat × Operand)):opK P T s ⟨some d,.buildSlice t n ⟨parts⟩,ty,pos,af,g⟩ K = zyU T s d (T t).k (T t).size n parts (kk K):=(rfl)
def lit (c:List PV):List PV:=c
def zJj (a:List Int) (c:List PV):List PV:=iL a ++ c
def zJk (a:List ByteArray) (c:List PV):List PV:=sL a ++ c
def zJl (a:List Bool) (c:List PV):List PV:=bL a ++ c
def zJm (a:List (List Int)) (c:List PV):List PV:=iLL a ++ c
theorem zoB:lit [] = []:=(rfl)
theorem zoC (n:Int) (l:List PV):lit (.v (.int .i64 n) :: l) = zJj [n] l:=(rfl)
theorem zoD (n:ByteArray) (l:List PV):lit (.v (.string n) :: l) = zJk [n] l:=(rfl)
theorem zjL (n:Bool) (l:List PV):lit (.v (.bool n) :: l) = zJl [n] l:=(rfl)
theorem zuK (n:List Int) (l:List PV):lit (.sl false 1 (iL n) :: l) = zJm [n] l:=(rfl)
theorem zjM (a:List Int):zJj a [] = iL a:=List.append_nil _
theorem zjN (a:List ByteArray):zJk a [] = sL a:=List.append_nil _
theorem zjO (a:List Bool):zJl a [] = bL a:=List.append_nil _
theorem zjP (a:List (List Int)):zJm a [] = iLL a:=List.append_nil _
theorem zhd (a:List Int) (n:Int) (l:List PV):zJj a (.v (.int .i64 n) :: l) = zJj (a ++ [n]) l:=by simp [zJj,iL]
theorem zhe (a:List ByteArray) (n:ByteArray) (l:List PV):zJk a (.v (.string n) :: l) = zJk (a ++ [n]) l:=by simp [zJk,sL]
theorem zhf (a:List Bool) (n:Bool) (l:List PV):zJl a (.v (.bool n) :: l) = zJl (a ++ [n]) l:=by simp [zJl,bL]
theorem zhg (a:List (List Int)) (n:List Int) (l:List PV):zJm a (.sl false 1 (iL n) :: l) = zJm (a ++ [n]) l:=by simp [zJm,iLL]
theorem zm6 (d e n:Nat) (parts:List (Nat × Operand)) (h2:(T e).size = 1) :
 zyU T s d (.sli e) 1 n parts K = (n = parts.length∧zoY 0 parts = true∧n ≤ 16777216∧zmy s.rw 1 (evs s parts) (kk fun c f=>d ∉ f∧K (((s.freeze f).row d ⟨(s.rw d).ver + 1,.sli e 1 false (lit c)⟩).put (some d) (.own d ((s.rw d).ver + 1))))):=by
 unfold zyU kk
 simp only [h2,Nat.one_pos,true_and,Nat.mul_one]
 rfl
theorem zqd (i:Nat):zoY i [] = true:=(rfl)
theorem zm7 (i j:Nat) (x:Operand) (l:List (Nat × Operand)):zoY i ((j,x) :: l) = (j == i && zoY (i + 1) l):=(rfl)
theorem zqe (rw:Nat→Row) (es:Nat) (Kp:List PV→List Nat→Prop):zmy rw es [] (kk Kp) = Kp [] []:=(rfl)
theorem zm8 (rw:Nat→Row) (es:Nat) (p:PV) (ps:List PV) (Kp:List PV→List Nat→Prop):zmy rw es (p :: ps) (kk Kp) = zc8 rw p (kk fun c f=>c.length = es∧zmy rw es ps (kk fun cs fs=>Kp (c ++ cs) (f ++ fs))):=(rfl)
theorem zqf [zae] (t:TypeId) (ad x:Operand):opK P T s ⟨none,.store t ad x,ty,pos,af,g⟩ K = zrQ T s t (s.ev ad) (s.ev x) (kk K):=by
 show ((none:Option Nat) = none∧zrQ T s t (s.ev ad) (s.ev x) K) = _
 simp [kk]
def zFX (T:Tab) (t:TypeId) (l c:PV) (K:TypeId→List PV→Prop):Prop :=
 match (T t).k,l,c with
 | .sli e,.v (.int _ nl),.v (.int _ nc)=>0 < (T t).size∧(T e).size = 1∧(match (T e).zero with
  | [z]=>0 ≤ nl∧nl ≤ nc∧((T e).bytes:Int) * nc ≤ 281474976710656∧nc ≤ 9223372036854775807∧K e (List.replicate nl.toNat (.v z))
  | _=>False)
 | _,_,_=>False
theorem zuL [zae] (d:Nat) (t:TypeId) (l c:Operand):opK P T s ⟨some d,.makeSlice t l c,ty,pos,af,g⟩ K = zFX T t (s.ev l) (s.ev c) (kk fun e cs=>K (zcI s d (.sli e 1 false cs) fun v=>.own d v)):=by
 unfold zFX kk
 simp only [opK]
 generalize (T t).k = a
 generalize s.ev l = b
 generalize s.ev c = e
 cases a <;> first | rfl | skip
 cases b <;> first | rfl | skip
 rename_i v
 cases v <;> first | rfl | skip
 cases e <;> first | rfl | skip
 rename_i v
 cases v <;> rfl
def zFY (T:Tab) (kd:TK) (z:Nat) (l c:PV) (K:TypeId→List PV→Prop):Prop :=
 match kd,l,c with
 | .sli e,.v (.int _ nl),.v (.int _ nc)=>0 < z∧(T e).size = 1∧(match (T e).zero with
  | [z]=>0 ≤ nl∧nl ≤ nc∧((T e).bytes:Int) * nc ≤ 281474976710656∧nc ≤ 9223372036854775807∧K e (List.replicate nl.toNat (.v z))
  | _=>False)
 | _,_,_=>False
theorem zyV (t:TypeId) (l c:PV) (Kc:TypeId→List PV→Prop):zFX T t l c Kc = zFY T (T t).k (T t).size l c Kc:=(rfl)
def zFZ (zs:List Value) (K:Value→Prop):Prop:=match zs with | [z]=>K z | _=>False
theorem zqg (z:Value) (Kz:Value→Prop):zFZ [z] Kz = Kz z:=(rfl)
theorem zqh {e:TypeId} {k1 k2:IntKind} {nl nc:Int} {Kc:TypeId→List PV→Prop} (h2:(T e).size = 1) :
 zFY T (.sli e) 1 (.v (.int k1 nl)) (.v (.int k2 nc)) Kc = zFZ (T e).zero (kk fun z=>0 ≤ nl∧nl ≤ nc∧((T e).bytes:Int) * nc ≤ 281474976710656∧nc ≤ 9223372036854775807∧Kc e (List.replicate nl.toNat (.v z))):=by
 unfold zFY zFZ kk
 simp only [h2,Nat.one_pos,true_and]
def zHQ (T:Tab) (s:St) (t:TypeId) (x:PV) (lo hi mx:Option Operand) (K:List Nat→PV→Prop):Prop :=
 match x with
 | .own k ver=>(match (s.rw k).kind with
  | .sli _ _ false _=>zbC T (s.freeze [k]).rw s.ev t (.own k ver) lo hi mx (K [k])
  | _=>zbC T s.rw s.ev t (.own k ver) lo hi mx (K []))
 | x=>zbC T s.rw s.ev t x lo hi mx (K [])
theorem zqi [zae] (t:TypeId) (x:Operand) (lo hi mx:Option Operand):opK P T s ⟨dst,.slice t x lo hi mx,ty,pos,af,g⟩ K = zHQ T s t (s.ev x) lo hi mx (kk fun fz p=>K ((s.freeze fz).put dst p)):=by
 have e:s.freeze [] = s:=St.freeze_nil s
 have h:∀ q,s.ev x = q→(match q with
  | .own k _=>(match (s.rw k).kind with
   | .sli _ _ false _=>zjp T (s.freeze [k]).rw s.ev (.slice t x lo hi mx) fun p=>K ((s.freeze [k]).put dst p)
   | _=>zjp T s.rw s.ev (.slice t x lo hi mx) fun p=>K (s.put dst p))
  | _=>zjp T s.rw s.ev (.slice t x lo hi mx) fun p=>K (s.put dst p)) = zHQ T s t q lo hi mx fun fz p=>K ((s.freeze fz).put dst p):=by
  intro q hq
  unfold zHQ
  cases q <;> simp only [zjp,hq,e]
 exact h _ rfl
end
def zHR (s:St) (l:List (Nat × Operand)):List (Nat × PV):=l.map fun x=>(x.1,s.ev x.2)
theorem zuM:zHR s [] = []:=(rfl)
theorem zqj (n:Nat) (x:Operand) (l:List (Nat × Operand)):zHR s ((n,x) :: l) = (n,s.ev x) :: zHR s l:=(rfl)
def zhh (T:Tab):List (Nat × TypeId)→Prop | []=>True | x :: fs=>0 < (T x.2).size∧zhh T fs
theorem zm9:zhh T [] = True:=(rfl)
theorem zku (o:Nat) (t:TypeId) (fs:List (Nat × TypeId)):zhh T ((o,t) :: fs) = (0 < (T t).size∧zhh T fs):=(rfl)
theorem zyW:∀ fs:List (Nat × TypeId),(∀ x ∈ fs,0 < (T x.2).size) = zhh T fs:=by
 intro fs
 induction fs with
 | nil=>simp [zhh]
 | cons x fs ih=>rw [zhh,← ih];simp
def zJn (T:Tab) (rw:Nat→Row) (kd:TK) (z:Nat) (zs:List Value) (pp:List (Nat × PV)) (K:PV→Prop):Prop :=
 0 < z∧match kd with
 | .struct fs=>zhh T fs∧zdl T rw fs pp (zs.map PV.v) fun c=>K (.ag c)
 | _=>False
theorem zEF [zae] (t:TypeId) (parts:List (Nat × Operand)) (Kp:PV→Prop):zgE T s.rw s.ev t ⟨parts⟩ Kp = zJn T s.rw (T t).k (T t).size (T t).zero (zHR s parts) (kk Kp):=by
 unfold zgE zJn kk
 cases (T t).k <;> first | rfl | skip
 simp only [zyW]
 rfl
theorem zkv (rw:Nat→Row) (fs:List (Nat × TypeId)) (z:Nat) (zs:List Value) (pp:List (Nat × PV)) (Kp:PV→Prop) :
 zJn T rw (.struct fs) z zs pp (kk Kp) = (0 < z∧zhh T fs∧zdl T rw fs pp (zs.map PV.v) (kk fun c=>Kp (.ag c))):=(rfl)
theorem zqk (rw:Nat→Row) (fs:List (Nat × TypeId)) (c:List PV) (Kc:List PV→Prop):zdl T rw fs [] c (kk Kc) = Kc c:=(rfl)
def zKS (T:Tab) (rw:Nat→Row) (fs:List (Nat × TypeId)) (x:Option (Nat × TypeId)) (p:PV) (rest:List (Nat × PV)) (cells:List PV) (Kc:List PV→Prop):Prop :=
 match x with
 | some (off,ft)=>za1 rw p fun c=>c.length = (T ft).size∧off + c.length ≤ cells.length∧zdl T rw fs rest (spl cells off c) Kc
 | none=>False
theorem zna (rw:Nat→Row) (fs:List (Nat × TypeId)) (i:Nat) (p:PV) (rest:List (Nat × PV)) (c:List PV) (Kc:List PV→Prop):zdl T rw fs ((i,p) :: rest) c (kk Kc) = zKS T rw fs fs[i]? p rest c (kk Kc):=by
 unfold zKS kk
 rw [zdl]
 cases fs[i]? <;> rfl
theorem zql (rw:Nat→Row) (fs:List (Nat × TypeId)) (off:Nat) (ft:TypeId) (p:PV) (rest:List (Nat × PV)) (cells:List PV) (Kc:List PV→Prop) :
 zKS T rw fs (some (off,ft)) p rest cells (kk Kc) = za1 rw p (kk fun c=>c.length = (T ft).size∧off + c.length ≤ cells.length∧zdl T rw fs rest (spl cells off c) (kk Kc)):=(rfl)
section
variable {dst:Option Nat} {ty:TypeId} {pos:String} {af:Array Edge} {g:Option (Nat × Bool)}
theorem zqm [zae] (t:TypeId) (parts:List (Nat × Operand)):opK P T s ⟨dst,.build t ⟨parts⟩,ty,pos,af,g⟩ K = zJn T s.rw (T t).k (T t).size (T t).zero (zHR s parts) (kk fun p=>K (s.put dst p)):=by
 rw [← zEF];rfl
def ncD (rw:Nat→Row) (kd:TK) (z:Nat) (x:PV) (Kb:Bool→Prop):Prop:=0 < z∧match kd with | .sli _=>slK rw x fun _ _ c=>Kb false∧(c = []→Kb true) | _=>False
theorem zkw [zae] (t t2:TypeId) (x:Operand):zd2 P T s ⟨dst,.binOp .eql t x (.const (.slice none 0 0)) t2,ty,pos,af,g⟩ K = ncD s.rw (T t).k (T t).size (s.ev x) (kk fun b=>K (s.put dst (.v (.bool b)))):=(rfl)
theorem zkx [zae] (t t2:TypeId) (x:Operand):zd2 P T s ⟨dst,.binOp .neq t x (.const (.slice none 0 0)) t2,ty,pos,af,g⟩ K = ncD s.rw (T t).k (T t).size (s.ev x) (kk fun b=>K (s.put dst (.v (.bool !b)))):=(rfl)
theorem zEG (rw:Nat→Row) (e z z':Nat) (fr:Bool) (c:List PV) (Kb:Bool→Prop):ncD rw (.sli e) z (.sl fr z' c) (kk Kb) = (0 < z∧Kb false∧(c = []→Kb true)):=(rfl)
def zwT (r:Row) (ver:Nat) (Kb:Bool→Prop):Prop:=r.ver = ver∧match r.kind with | .nil=>Kb false∧Kb true | .sli _ _ _ c=>Kb false∧(c = []→Kb true) | _=>False
theorem zyX (rw:Nat→Row) (e z j v:Nat) (Kb:Bool→Prop):ncD rw (.sli e) z (.own j v) (kk Kb) = (0 < z∧zwT (rw j) v (kk Kb)):=by
 unfold ncD zwT kk slK
 dsimp only
 cases (rw j).kind <;> simp
theorem zqn (ver e sz:Nat) (fz:Bool) (c:List PV) (Kb:Bool→Prop):zwT ⟨ver,.sli e sz fz c⟩ ver (kk Kb) = (Kb false∧(c = []→Kb true)):=by simp [zwT,kk]
theorem zqo (ver:Nat) (Kb:Bool→Prop):zwT ⟨ver,.nil⟩ ver (kk Kb) = (Kb false∧Kb true):=by simp [zwT,kk]
theorem zuN [zae] (x:Operand):zd2 P T s ⟨dst,.move x,ty,pos,af,g⟩ K = opK P T s ⟨dst,.move x,ty,pos,af,g⟩ K:=(rfl)
theorem znb [zae] (x:Operand):zd2 P T s ⟨dst,.assign x,ty,pos,af,g⟩ K = opK P T s ⟨dst,.assign x,ty,pos,af,g⟩ K:=(rfl)
theorem zuO [zae] (c x y:Operand):zd2 P T s ⟨dst,.pick c x y,ty,pos,af,g⟩ K = opK P T s ⟨dst,.pick c x y,ty,pos,af,g⟩ K:=(rfl)
theorem zEH [zae] (op:UnOp) (t:TypeId) (x:Operand):zd2 P T s ⟨dst,.unOp op t x,ty,pos,af,g⟩ K = opK P T s ⟨dst,.unOp op t x,ty,pos,af,g⟩ K:=(rfl)
theorem zky [zae] (a b:TypeId) (x:Operand):zd2 P T s ⟨dst,.convert a b x,ty,pos,af,g⟩ K = opK P T s ⟨dst,.convert a b x,ty,pos,af,g⟩ K:=(rfl)
theorem zuP [zae] (t:TypeId) (x:Operand):zd2 P T s ⟨dst,.load t x,ty,pos,af,g⟩ K = opK P T s ⟨dst,.load t x,ty,pos,af,g⟩ K:=(rfl)
theorem zhi [zae] (t:TypeId) (x:Operand) (f:Nat):zd2 P T s ⟨dst,.fieldAddr t x f,ty,pos,af,g⟩ K = opK P T s ⟨dst,.fieldAddr t x f,ty,pos,af,g⟩ K:=(rfl)
theorem zqp [zae] (t:TypeId) (x:Operand) (f:Nat):zd2 P T s ⟨dst,.field t x f,ty,pos,af,g⟩ K = opK P T s ⟨dst,.field t x f,ty,pos,af,g⟩ K:=(rfl)
theorem znc [zae] (t:TypeId) (x i:Operand) (ok:Bool):zd2 P T s ⟨dst,.lookup t x i ok,ty,pos,af,g⟩ K = opK P T s ⟨dst,.lookup t x i ok,ty,pos,af,g⟩ K:=(rfl)
theorem zkz [zae] (t:TypeId) (r:Option Operand):zd2 P T s ⟨dst,.makeMap t r,ty,pos,af,g⟩ K = opK P T s ⟨dst,.makeMap t r,ty,pos,af,g⟩ K:=(rfl)
theorem zhj [zae] (t:TypeId) (m x y:Operand):zd2 P T s ⟨dst,.mapUpdate t m x y,ty,pos,af,g⟩ K = opK P T s ⟨dst,.mapUpdate t m x y,ty,pos,af,g⟩ K:=(rfl)
theorem zhk [zae] (t:TypeId) (x i:Operand):zd2 P T s ⟨dst,.indexAddr t x i,ty,pos,af,g⟩ K = opK P T s ⟨dst,.indexAddr t x i,ty,pos,af,g⟩ K:=(rfl)
theorem zqq [zae] (t:TypeId) (x i:Operand):zd2 P T s ⟨dst,.index t x i,ty,pos,af,g⟩ K = opK P T s ⟨dst,.index t x i,ty,pos,af,g⟩ K:=(rfl)
theorem zkA [zae] (x:Operand) (i:Nat):zd2 P T s ⟨dst,.extract x i,ty,pos,af,g⟩ K = opK P T s ⟨dst,.extract x i,ty,pos,af,g⟩ K:=(rfl)
theorem ziT [zae] (x:Operand):zd2 P T s ⟨dst,.nilCheck x,ty,pos,af,g⟩ K = opK P T s ⟨dst,.nilCheck x,ty,pos,af,g⟩ K:=(rfl)
theorem ziU [zae] (f:Fn) (fi caps:Array Operand):zd2 P T s ⟨dst,.makeFunc f fi caps,ty,pos,af,g⟩ K = opK P T s ⟨dst,.makeFunc f fi caps,ty,pos,af,g⟩ K:=(rfl)
theorem zqr [zae] (t:TypeId):zd2 P T s ⟨dst,.alloc t,ty,pos,af,g⟩ K = opK P T s ⟨dst,.alloc t,ty,pos,af,g⟩ K:=(rfl)
theorem zyY [zae] (t:TypeId) (x:Operand):zd2 P T s ⟨dst,.box t x,ty,pos,af,g⟩ K = opK P T s ⟨dst,.box t x,ty,pos,af,g⟩ K:=(rfl)
theorem znd [zae] (t:TypeId) (n:Nat):zd2 P T s ⟨dst,.buildSlice t n ⟨[]⟩,ty,pos,af,g⟩ K = opK P T s ⟨dst,.buildSlice t n ⟨[]⟩,ty,pos,af,g⟩ K:=(rfl)
theorem zne [zae] (t:TypeId) (n:Nat) (p q:Nat × Operand) (l:List (Nat × Operand)):zd2 P T s ⟨dst,.buildSlice t n ⟨p :: q :: l⟩,ty,pos,af,g⟩ K = opK P T s ⟨dst,.buildSlice t n ⟨p :: q :: l⟩,ty,pos,af,g⟩ K:=(rfl)
def zEI (T:Tab) (s:St) (d:Nat) (t:TypeId) (n i:Nat) (p:PV) (Kt:St→Prop) (A:Prop):Prop :=
 match p with
 | .own k ver=>(match (s.rw k).kind with | .tab _ _=>zlf T s d t n i k ver Kt | .sli _ _ _ _=>A ∨ zlf T s d t n i k ver Kt | _=>A)
 | _=>A
theorem znf [zae] (d:Nat) (t:TypeId) (n i:Nat) (x:Operand):zd2 P T s ⟨some d,.buildSlice t n ⟨[(i,x)]⟩,ty,pos,af,g⟩ K =
 zEI T s d t n i (s.ev x) (kk K) (kk (opK P T s ⟨some d,.buildSlice t n ⟨[(i,x)]⟩,ty,pos,af,g⟩ K)):=by
 unfold zd2 zEI kk
 dsimp only
 cases s.ev x <;> rfl
theorem zEJ (d:Nat) (t:TypeId) (n i:Nat) (x:Value) (A:Prop):zEI T s d t n i (.v x) (kk K) (kk A) = A:=(rfl)
theorem zyZ (d:Nat) (t:TypeId) (n i:Nat) (fr:Bool) (z:Nat) (c:List PV) (A:Prop):zEI T s d t n i (.sl fr z c) (kk K) (kk A) = A:=(rfl)
theorem zy0 (d:Nat) (t:TypeId) (n i:Nat) (c:List PV) (A:Prop):zEI T s d t n i (.ag c) (kk K) (kk A) = A:=(rfl)
theorem zqs (d:Nat) (t:TypeId) (n i:Nat) (fr:Bool) (c:List PV) (o:Nat) (A:Prop):zEI T s d t n i (.eref fr c o) (kk K) (kk A) = A:=(rfl)
theorem zuQ (d:Nat) (t:TypeId) (n i:Nat) (j v o:Nat) (A:Prop):zEI T s d t n i (.ref j v o) (kk K) (kk A) = A:=(rfl)
def zuR (T:Tab) (r:Row) (s:St) (d:Nat) (t:TypeId) (n i k ver:Nat) (Kt:St→Prop) (A:Prop):Prop:=match r.kind with | .tab _ _=>zlf T s d t n i k ver Kt | .sli _ _ _ _=>A ∨ zlf T s d t n i k ver Kt | _=>A
theorem zuS (d:Nat) (t:TypeId) (n i k ver:Nat) (A:Prop):zEI T s d t n i (.own k ver) (kk K) (kk A) = zuR T (s.rw k) s d t n i k ver (kk K) (kk A):=(rfl)
theorem zng (d:Nat) (t:TypeId) (n i k ver v:Nat) (A:Prop):zuR T ⟨v,.nil⟩ s d t n i k ver (kk K) (kk A) = A:=(rfl)
def zic (T:Tab) (s:St) (d:Nat) (kd:TK) (z n i k ver:Nat) (r:Row) (K:St→Prop):Prop:=0 < z∧n = 1∧i = 0∧r.ver = ver∧r.kind.slice = true∧d ≠ k∧(match kd with
 | .sli e=>(T e).size = 1∧K ((s.row d ⟨(s.rw d).ver + 1,.tab e [.own k ver]⟩).put (some d) (.own d ((s.rw d).ver + 1)))
 | _=>False)
def orB (A B:Prop):Prop:=A ∨ B
theorem zKT {A B:Prop} {u:Dm A} {v:Dm B} (h:A):orB (kk A u) (kk B v):=.inl h
theorem znh (d:Nat) (t:TypeId) (n i k ver v e z:Nat) (fz:Bool) (c:List PV) (A:Prop):zuR T ⟨v,.sli e z fz c⟩ s d t n i k ver (kk K) (kk A) = orB (kk A) (kk (zic T s d (T t).k (T t).size n i k ver (s.rw k) K)):=(rfl)
theorem zkB (d e k ver e' z:Nat) (fz:Bool) (c:List PV) (h:(T e).size = 1):zic T s d (.sli e) 1 1 0 k ver ⟨ver,.sli e' z fz c⟩ K = (d ≠ k∧K ((s.row d ⟨(s.rw d).ver + 1,.tab e [.own k ver]⟩).put (some d) (.own d ((s.rw d).ver + 1)))):=by
 simp only [zic,h,RK.slice,Nat.one_pos,true_and]
theorem zni (d:Nat) (t:TypeId) (n i k ver v e:Nat) (c:List PV) (A:Prop):zuR T ⟨v,.tab e c⟩ s d t n i k ver (kk K) (kk A) = zic T s d (T t).k (T t).size n i k ver (s.rw k) K:=(rfl)
theorem zkC (d e k ver e':Nat) (c:List PV) (h:(T e).size = 1):zic T s d (.sli e) 1 1 0 k ver ⟨ver,.tab e' c⟩ K = (d ≠ k∧K ((s.row d ⟨(s.rw d).ver + 1,.tab e [.own k ver]⟩).put (some d) (.own d ((s.rw d).ver + 1)))):=by
 simp only [zic,h,RK.slice,Nat.one_pos,true_and]
def zEK (T:Tab) (s:St) (d:Nat) (t t2:TypeId) (x:PV) (y:PV) (Kt:St→Prop) (A:Prop):Prop :=
 match x with
 | .own k ver=>(match (s.rw k).kind with | .tab e c=>zKG T s d t t2 k ver e c y Kt | _=>A)
 | _=>A
def zHS (T:Tab) (s:St) (d:Nat) (t t2:TypeId) (x:PV) (y:PV) (Kt:St→Prop) (A:Prop):Prop :=
 match y with
 | .v (.string b)=>zth T s d t t2 x b Kt
 | _=>zEK T s d t t2 x y Kt A
theorem znj [zae] (d:Nat) (x y:Operand) (t t2:TypeId):zd2 P T s ⟨some d,.call ⟨.builtin .append,⟨[x,y]⟩,⟨[t,t2]⟩⟩,ty,pos,af,g⟩ K =
 zHS T s d t t2 (s.ev x) (s.ev y) (kk K) (kk (opK P T s ⟨some d,.call ⟨.builtin .append,⟨[x,y]⟩,⟨[t,t2]⟩⟩,ty,pos,af,g⟩ K)):=by
 unfold zd2 zHS zEK kk
 dsimp only
 cases s.ev y with
 | v z=>cases z <;> first | rfl | (cases s.ev x <;> rfl)
 | _=>cases s.ev x <;> rfl
theorem zuT (d:Nat) (t t2:TypeId) (x:PV) (k ver:Nat) (A:Prop):zHS T s d t t2 x (.own k ver) (kk K) (kk A) = zEK T s d t t2 x (.own k ver) (kk K) (kk A):=(rfl)
theorem zy1 (d:Nat) (t t2:TypeId) (x:PV) (fr:Bool) (z:Nat) (c:List PV) (A:Prop):zHS T s d t t2 x (.sl fr z c) (kk K) (kk A) = zEK T s d t t2 x (.sl fr z c) (kk K) (kk A):=(rfl)
theorem znk (d:Nat) (t t2:TypeId) (x:PV) (a:Option Addr) (n c:Nat) (A:Prop):zHS T s d t t2 x (.v (.slice a n c)) (kk K) (kk A) = zEK T s d t t2 x (.v (.slice a n c)) (kk K) (kk A):=(rfl)
def zy2 (T:Tab) (r:Row) (s:St) (d:Nat) (kd:TK) (z:Nat) (kd2:TK) (z2 k ver:Nat) (b:ByteArray) (K:St→Prop):Prop :=
 0 < z∧0 < z2∧kd2 = .str∧match kd with
 | .sli e=>(T e).size = 1∧0 < (T e).bytes∧(r.ver = ver∧(match r.kind with
  | .nil=>b.size * (T e).bytes ≤ 140737488355328∧K (zdm s d k (.sli e (T e).size false (zfg b)))
  | .sli e' sz' false c=>e' = e∧sz' = (T e).size∧(c.length + b.size) * (T e).bytes ≤ 140737488355328∧K (zdm s d k (.sli e (T e).size false (c ++ zfg b)))
  | _=>False))
 | _=>False
theorem zuU (d:Nat) (t t2:TypeId) (k ver:Nat) (b:ByteArray) (A:Prop):zHS T s d t t2 (.own k ver) (.v (.string b)) (kk K) (kk A) = zy2 T (s.rw k) s d (T t).k (T t).size (T t2).k (T t2).size k ver b (kk K):=(rfl)
theorem zqt (d k ver e:Nat) (c:List PV) (b:ByteArray) (h:(T e).size = 1) (h2:(T e).bytes = 1):zy2 T ⟨ver,.sli e 1 false c⟩ s d (.sli e) 1 .str 1 k ver b (kk K) =
 (c.length + b.size ≤ 140737488355328∧K (zdm s d k (.sli e 1 false (c ++ zfg b)))):=by
 simp only [zy2,h,h2,Nat.one_pos,true_and,kk,Nat.mul_one]
theorem zqu (d k ver e:Nat) (b:ByteArray) (h:(T e).size = 1) (h2:(T e).bytes = 1):zy2 T ⟨ver,.nil⟩ s d (.sli e) 1 .str 1 k ver b (kk K) =
 (b.size ≤ 140737488355328∧K (zdm s d k (.sli e 1 false (zfg b)))):=by
 simp only [zy2,h,h2,Nat.one_pos,true_and,kk,Nat.mul_one]
theorem zEL (d:Nat) (t t2:TypeId) (x:Value) (y:PV) (A:Prop):zEK T s d t t2 (.v x) y (kk K) (kk A) = A:=(rfl)
theorem zy3 (d:Nat) (t t2:TypeId) (fr:Bool) (z:Nat) (c:List PV) (y:PV) (A:Prop):zEK T s d t t2 (.sl fr z c) y (kk K) (kk A) = A:=(rfl)
def zoE (T:Tab) (r:Row) (s:St) (d:Nat) (t t2:TypeId) (k ver:Nat) (y:PV) (Kt:St→Prop) (A:Prop):Prop:=match r.kind with | .tab e c=>zKG T s d t t2 k ver e c y Kt | _=>A
theorem zuV (d:Nat) (t t2:TypeId) (k ver:Nat) (y:PV) (A:Prop):zEK T s d t t2 (.own k ver) y (kk K) (kk A) = zoE T (s.rw k) s d t t2 k ver y (kk K) (kk A):=(rfl)
theorem zkD (d:Nat) (t t2:TypeId) (k ver v e z:Nat) (fz:Bool) (c:List PV) (y:PV) (A:Prop):zoE T ⟨v,.sli e z fz c⟩ s d t t2 k ver y (kk K) (kk A) = A:=(rfl)
theorem zkE (d:Nat) (t t2:TypeId) (k ver v:Nat) (y:PV) (A:Prop):zoE T ⟨v,.nil⟩ s d t t2 k ver y (kk K) (kk A) = A:=(rfl)
def zF0 (T:Tab) (s:St) (d:Nat) (kd:TK) (z k ver e:Nat) (r:Row) (c:List PV) (y:PV) (K:St→Prop):Prop :=
 0 < z∧kd = .sli e∧(T e).size = 1∧0 < (T e).bytes∧r.ver = ver∧zxh s.rw y fun news=>(c.length + news.length) * (T e).bytes ≤ 140737488355328∧K (zdm s d k (.tab e (c ++ news)))
theorem zkF (d:Nat) (t:TypeId) (k ver v e:Nat) (c:List PV) (y:PV) (A:Prop):zoE T ⟨v,.tab e c⟩ s d t t k ver y (kk K) (kk A) = zF0 T s d (T t).k (T t).size k ver e (s.rw k) c y (kk K):=propext ⟨fun h=>h.2,fun h=>⟨rfl,h⟩⟩
theorem zqv (d k ver e e':Nat) (c c':List PV) (y:PV) (h:(T e).size = 1) (h2:0 < (T e).bytes):zF0 T s d (.sli e) 1 k ver e ⟨ver,.tab e' c'⟩ c y (kk K) =
 zxh s.rw y (kk fun news=>(c.length + news.length) * (T e).bytes ≤ 140737488355328∧K (zdm s d k (.tab e (c ++ news)))):=by
 simp only [zF0,h,h2,Nat.one_pos,true_and,kk]
def zqw (r:Row) (rw:Nat→Row) (v:Nat) (Kc:List PV→Prop):Prop:=r.ver = v∧(match r.kind with
 | .sli _ sz _ c=>sz = 1∧(∀ p ∈ c,isV p = true)∧Kc c
 | .tab _ c=>(∀ p ∈ c,zjb rw p)∧Kc c
 | _=>False)
theorem zqx (rw:Nat→Row) (j v:Nat) (Kc:List PV→Prop):zxh rw (.own j v) (kk Kc) = zqw (rw j) rw v (kk Kc):=(rfl)
theorem zqy [zae] (rw:Nat→Row) (v e:Nat) (fz:Bool) (xs:List Int) (Kc:List PV→Prop):zqw ⟨v,.sli e 1 fz (iL xs)⟩ rw v (kk Kc) = Kc (iL xs):=by
 have:=zym xs
 simp only [zqw,this,true_and,kk]
theorem znl (rw:Nat→Row) (v e k ver:Nat) (Kc:List PV→Prop):zqw ⟨v,.tab e [.own k ver]⟩ rw v (kk Kc) = (zjb rw (.own k ver)∧Kc [.own k ver]):=by
 simp only [zqw,true_and,kk,List.mem_singleton,forall_eq]
theorem zqz [zae] (t:TypeId) (parts:Array (Nat × Operand)):zd2 P T s ⟨dst,.build t parts,ty,pos,af,g⟩ K = opK P T s ⟨dst,.build t parts,ty,pos,af,g⟩ K:=(rfl)
theorem zqA [zae] (t:TypeId) (ad x:Operand):zd2 P T s ⟨dst,.store t ad x,ty,pos,af,g⟩ K = opK P T s ⟨dst,.store t ad x,ty,pos,af,g⟩ K:=(rfl)
theorem zuW [zae] (t:TypeId) (l c:Operand):zd2 P T s ⟨dst,.makeSlice t l c,ty,pos,af,g⟩ K = opK P T s ⟨dst,.makeSlice t l c,ty,pos,af,g⟩ K:=(rfl)
theorem zqB [zae] (t:TypeId) (x:Operand) (lo hi mx:Option Operand):zd2 P T s ⟨dst,.slice t x lo hi mx,ty,pos,af,g⟩ K = opK P T s ⟨dst,.slice t x lo hi mx,ty,pos,af,g⟩ K:=(rfl)
theorem zkG [zae] (op:BinOp) (t t2:TypeId) (x:Operand) (y:Nat):zd2 P T s ⟨dst,.binOp op t x (.tmp y) t2,ty,pos,af,g⟩ K = opK P T s ⟨dst,.binOp op t x (.tmp y) t2,ty,pos,af,g⟩ K:=by cases op <;> rfl
theorem zkH [zae] (op:BinOp) (t t2:TypeId) (x:Operand) (k:IntKind) (n:Int):zd2 P T s ⟨dst,.binOp op t x (.const (.int k n)) t2,ty,pos,af,g⟩ K = opK P T s ⟨dst,.binOp op t x (.const (.int k n)) t2,ty,pos,af,g⟩ K:=by cases op <;> rfl
theorem ziV [zae] (op:BinOp) (t t2:TypeId) (x:Operand) (b:Bool):zd2 P T s ⟨dst,.binOp op t x (.const (.bool b)) t2,ty,pos,af,g⟩ K = opK P T s ⟨dst,.binOp op t x (.const (.bool b)) t2,ty,pos,af,g⟩ K:=by cases op <;> rfl
theorem zgn [zae] (op:BinOp) (t t2:TypeId) (x:Operand) (b:ByteArray):zd2 P T s ⟨dst,.binOp op t x (.const (.string b)) t2,ty,pos,af,g⟩ K = opK P T s ⟨dst,.binOp op t x (.const (.string b)) t2,ty,pos,af,g⟩ K:=by cases op <;> rfl
end
section
variable {dst:Option Nat} {ty:TypeId} {pos:String} {af:Array Edge} {g:Option (Nat × Bool)} {Ke:Ent→St→Prop}
theorem zy4 [zae] (x:Operand):dK P T s ⟨dst,.move x,ty,pos,af,g⟩ (kk Ke) = evK (s.ev x) (kk fun p=>Ke ⟨[],.ids []⟩ (s.put dst p)):=(rfl)
theorem zqC [zae] (x:Operand):dK P T s ⟨dst,.assign x,ty,pos,af,g⟩ (kk Ke) = evK (s.ev x) (kk fun p=>Ke ⟨[],.ids []⟩ (s.put dst p)):=(rfl)
theorem zy5 [zae] (c x y:Operand):dK P T s ⟨dst,.pick c x y,ty,pos,af,g⟩ (kk Ke) = zCJ (s.ev c) (kk (evK (s.ev x) (kk fun p=>Ke ⟨[],.ids []⟩ (s.put dst p)))) (kk (evK (s.ev y) (kk fun p=>Ke ⟨[],.ids []⟩ (s.put dst p)))):=(rfl)
theorem zEM [zae] (op:BinOp) (t t2:TypeId) (x y:Operand):dK P T s ⟨dst,.binOp op t x y t2,ty,pos,af,g⟩ (kk Ke) = zde T op t (s.ev x) (s.ev y) (kk fun p=>Ke ⟨[],.ids []⟩ (s.put dst p)):=(rfl)
theorem zJo [zae] (op:UnOp) (t:TypeId) (x:Operand):dK P T s ⟨dst,.unOp op t x,ty,pos,af,g⟩ (kk Ke) = unK op (s.ev x) (kk fun p=>Ke ⟨[],.ids []⟩ (s.put dst p)):=(rfl)
theorem znm [zae] (a b:TypeId) (x:Operand):dK P T s ⟨dst,.convert a b x,ty,pos,af,g⟩ (kk Ke) = zdk [s.ev x] [] (kk fun l=>zgd T s.rw a b (s.ev x) (kk fun p=>Ke ⟨l,.ids []⟩ (s.put dst p))):=(rfl)
theorem zy6 [zae] (t:TypeId) (x:Operand):dK P T s ⟨dst,.load t x,ty,pos,af,g⟩ (kk Ke) = zdk [s.ev x] [] (kk fun l=>zsH s.rw (s.ev x) (kk fun m c off=>ldK T t m c off (kk fun p=>Ke ⟨l,.ids []⟩ (s.put dst p)))):=(rfl)
theorem ziW [zae] (t:TypeId) (x:Operand) (f:Nat):dK P T s ⟨dst,.fieldAddr t x f,ty,pos,af,g⟩ (kk Ke) =
 zdk [s.ev x] [] (kk fun l=>zdS T t f (kk fun o _=>zls (s.ev x) = true∧zdB s.rw (s.ev x) (kk (evK (zek (s.ev x) o) (kk fun p=>Ke ⟨l,.ids []⟩ (s.put dst p)))))):=(rfl)
theorem zuX [zae] (t:TypeId) (x:Operand) (f:Nat):dK P T s ⟨dst,.field t x f,ty,pos,af,g⟩ (kk Ke) =
 agK (s.ev x) (kk fun c=>zdS T t f (kk fun o ft=>ldK T ft .asis c o (kk fun p=>Ke ⟨[],.ids []⟩ (s.put dst p)))):=zkq (P:=P) (T:=T) (s:=s) (K:=Ke ⟨[],.ids []⟩) (dst:=dst) (ty:=ty) (pos:=pos) (af:=af) (g:=g) t x f
theorem ziX [zae] (t:TypeId) (x y:Operand):dK P T s ⟨dst,.indexAddr t x y,ty,pos,af,g⟩ (kk Ke) = zdk [s.ev x,s.ev y] [] (kk fun l=>zbp T s.rw t (s.ev x) (s.ev y) (kk fun p=>Ke ⟨l,.ids []⟩ (s.put dst p))):=(rfl)
theorem zuY [zae] (t:TypeId) (x y:Operand):dK P T s ⟨dst,.index t x y,ty,pos,af,g⟩ (kk Ke) = zuF T t (s.ev x) (s.ev y) (kk fun p=>Ke ⟨[],.ids []⟩ (s.put dst p)):=(rfl)
theorem znn [zae] (x:Operand) (n:Nat):dK P T s ⟨dst,.extract x n,ty,pos,af,g⟩ (kk Ke) = zKR (s.ev x) (kk fun ps=>n < ps.length∧evK (ps.getD n .junk) (kk fun p=>Ke ⟨[],.ids []⟩ (s.put dst p))):=(rfl)
theorem zkI [zae] (f:FuncId) (caps:Array Operand):dK P T s ⟨dst,.makeFunc (.func f) #[] caps,ty,pos,af,g⟩ (kk Ke) = Ke ⟨[],.ids []⟩ (s.put dst (.clo f (caps.toList.map s.ev))):=by
 show (#[] = (#[]:Array Operand)∧Ke ⟨[],.ids []⟩ (s.put dst (.clo f (caps.toList.map s.ev)))) = _
 simp
theorem zkJ [zae] (x:Operand):dK P T s ⟨dst,.nilCheck x,ty,pos,af,g⟩ (kk Ke) = zdk [s.ev x] [] (kk fun l=>zdB s.rw (s.ev x) (kk (evK (s.ev x) (kk fun p=>Ke ⟨l,.ids []⟩ (s.put dst p))))):=(rfl)
theorem zEN [zae] (x:Operand) (t:TypeId):dK P T s ⟨dst,.call ⟨.builtin .len,#[x],#[t]⟩,ty,pos,af,g⟩ (kk Ke) = zdk [s.ev x] [] (kk fun l=>zAK T s.rw t (s.ev x) (kk fun p=>Ke ⟨l,.ids []⟩ (s.put dst p))):=(rfl)
theorem zEO [zae] (x y:Operand) (ts:Array TypeId):dK P T s ⟨dst,.call ⟨.builtin .max,#[x,y],ts⟩,ty,pos,af,g⟩ (kk Ke) = zdk [s.ev x,s.ev y] [] (kk fun l=>zcQ true (s.ev x) (s.ev y) (kk fun p=>Ke ⟨l,.ids []⟩ (s.put dst p))):=(rfl)
theorem zEP [zae] (x y:Operand) (ts:Array TypeId):dK P T s ⟨dst,.call ⟨.builtin .min,#[x,y],ts⟩,ty,pos,af,g⟩ (kk Ke) = zdk [s.ev x,s.ev y] [] (kk fun l=>zcQ false (s.ev x) (s.ev y) (kk fun p=>Ke ⟨l,.ids []⟩ (s.put dst p))):=(rfl)
theorem zqD [zae] (t:TypeId) (x:Operand) (mx:Option Operand):dK P T s ⟨dst,.slice t x none none mx,ty,pos,af,g⟩ (kk Ke) = zdk (s.ev x :: (mx.toList).map s.ev) [] (kk fun l=>zbC T s.rw s.ev t (s.ev x) none none mx (kk fun p=>Ke ⟨l,.ids []⟩ (s.put dst p))):=by
 cases mx <;> rfl
theorem zqE [zae] (t:TypeId) (x lo:Operand):dK P T s ⟨dst,.slice t x (some lo) none none,ty,pos,af,g⟩ (kk Ke) = zdk [s.ev x,s.ev lo] [] (kk fun l=>zbC T s.rw s.ev t (s.ev x) (some lo) none none (kk fun p=>Ke ⟨l,.ids []⟩ (s.put dst p))):=(rfl)
def zqF (T:Tab) (s:St) (dst:Option Nat) (t:TypeId) (x hi:Operand) (r:Row) (k ver:Nat) (py:PV) (Ke:Ent→St→Prop):Prop :=
 match r.kind with
 | .sli _ _ false _=>zMH T s dst t r k ver py Ke
 | _=>zdk [.own k ver,py] [] (kk fun l=>zbC T s.rw s.ev t (.own k ver) none (some hi) none (kk fun p=>Ke ⟨l,.ids []⟩ (s.put dst p)))
def zJp (T:Tab) (s:St) (dst:Option Nat) (t:TypeId) (x hi:Operand) (px py:PV) (Ke:Ent→St→Prop):Prop :=
 match px with
 | .own k ver=>zqF T s dst t x hi (s.rw k) k ver py Ke
 | _=>zdk [px,py] [] (kk fun l=>zbC T s.rw s.ev t px none (some hi) none (kk fun p=>Ke ⟨l,.ids []⟩ (s.put dst p)))
theorem zuZ (t:TypeId) (x hi:Operand) (k ver:Nat) (py:PV):zJp T s dst t x hi (.own k ver) py (kk Ke) = zqF T s dst t x hi (s.rw k) k ver py (kk Ke):=(rfl)
theorem zy7 (t:TypeId) (x hi:Operand) (fr:Bool) (z:Nat) (c:List PV) (py:PV):zJp T s dst t x hi (.sl fr z c) py (kk Ke) = zdk [.sl fr z c,py] [] (kk fun l=>zbC T s.rw s.ev t (.sl fr z c) none (some hi) none (kk fun p=>Ke ⟨l,.ids []⟩ (s.put dst p))):=(rfl)
theorem zEQ (t:TypeId) (x hi:Operand) (v:Value) (py:PV):zJp T s dst t x hi (.v v) py (kk Ke) = zdk [.v v,py] [] (kk fun l=>zbC T s.rw s.ev t (.v v) none (some hi) none (kk fun p=>Ke ⟨l,.ids []⟩ (s.put dst p))):=(rfl)
theorem zqG (t:TypeId) (x hi:Operand) (v e z:Nat) (c:List PV) (k ver:Nat) (py:PV):zqF T s dst t x hi ⟨v,.sli e z true c⟩ k ver py (kk Ke) = zdk [.own k ver,py] [] (kk fun l=>zbC T s.rw s.ev t (.own k ver) none (some hi) none (kk fun p=>Ke ⟨l,.ids []⟩ (s.put dst p))):=(rfl)
def zKU (T:Tab) (t e:TypeId):Prop:=0 < (T t).size∧(T t).k = .sli e∧0 < (T e).size∧(T e).size = 1
theorem zkK (t:TypeId) (x hi:Operand) (v e:Nat) (c:List PV) (k ver d:Nat) (kd:IntKind) (m:Int):zqF T s (some d) t x hi ⟨v,.sli e 1 false c⟩ k ver (.v (.int kd m)) (kk Ke) =
 (v = ver∧zKU T t e∧0 ≤ m∧m ≤ (c.length:Int)∧Ke ⟨[],.ids [k]⟩ ((s.row k ⟨ver + 1,.sli e 1 false (c.take m.toNat)⟩).put (some d) (.own k (ver + 1)))):=by
 refine propext ⟨fun h=>?_,fun ⟨h1,⟨h2,h3,h4,h5⟩,h6,h7,h8⟩=>⟨d,e,c,kd,m,rfl,by rw [h1],h2,h3,h4,h5,rfl,h6,h7,h8⟩⟩
 obtain ⟨d',e',c',kd',m',g1,g2,g3,g4,g5,g6,g7,g8,g9,g10⟩:=h
 cases g1;cases g2;cases g7
 exact ⟨rfl,⟨g3,g4,g5,g6⟩,g8,g9,g10⟩
theorem zqH [zae] (t:TypeId) (x hi:Operand):dK P T s ⟨dst,.slice t x none (some hi) none,ty,pos,af,g⟩ (kk Ke) = zJp T s dst t x hi (s.ev x) (s.ev hi) (kk Ke):=by
 have hr:(zfe T s.rw s.ev (.slice t x none (some hi) none) fun p=>Ke ⟨zoN s ⟨dst,.slice t x none (some hi) none,ty,pos,af,g⟩,.ids []⟩ (s.put dst p)) = zdk [s.ev x,s.ev hi] [] (kk fun l=>zbC T s.rw s.ev t (s.ev x) none (some hi) none (kk fun p=>Ke ⟨l,.ids []⟩ (s.put dst p))):=(rfl)
 show zKF T s ⟨dst,.slice t x none (some hi) none,ty,pos,af,g⟩ t (s.ev x) (s.ev hi) (kk Ke) = _
 cases hx:s.ev x with
 | own k ver =>
   rw [hx] at hr
   unfold zKF zJp zqF
   dsimp only
   generalize s.rw k = r
   cases r with
   | mk v kd =>
     cases kd with
     | sli e z fz c=>cases fz with
       | false=>rfl
       | true=>exact hr
     | _=>exact hr
 | _=>rw [hx] at hr;exact hr
theorem zqI [zae] (t:TypeId) (x lo hi:Operand):dK P T s ⟨dst,.slice t x (some lo) (some hi) none,ty,pos,af,g⟩ (kk Ke) = zdk [s.ev x,s.ev lo,s.ev hi] [] (kk fun l=>zbC T s.rw s.ev t (s.ev x) (some lo) (some hi) none (kk fun p=>Ke ⟨l,.ids []⟩ (s.put dst p))):=(rfl)
theorem zu0 [zae] (t:TypeId) (parts:List (Nat × Operand)):dK P T s ⟨dst,.build t ⟨parts⟩,ty,pos,af,g⟩ (kk Ke) = zdk (evs s parts) [] (kk fun l=>zJn T s.rw (T t).k (T t).size (T t).zero (zHR s parts) (kk fun p=>Ke ⟨l,.ids []⟩ (s.put dst p))):=by
 have e:((Op.build t ⟨parts⟩).operands.toList.map s.ev).flatMap zew = (evs s parts).flatMap zew:=by
  simp [Op.operands,evs]
  rfl
 show zfe T s.rw s.ev (.build t ⟨parts⟩) (fun p=>Ke ⟨((Op.build t ⟨parts⟩).operands.toList.map s.ev).flatMap zew,.ids []⟩ (s.put dst p)) = _
 rw [e]
 exact (zEF (T:=T) (s:=s) t parts (fun p=>Ke ⟨(evs s parts).flatMap zew,.ids []⟩ (s.put dst p)))
def zF1 [zae] (P:Program) (f:FuncId) (raw:List PV) (d:Nat) (s:St) (Ke:Ent→St→Prop):Prop:=zJD P s f raw d (fun rd k s1=>Ke ⟨rd,.ids [d,k]⟩ s1)
theorem zF2 [zae] {f:FuncId} {args raw lent:List PV} {k v e e2 d:Nat} {p:List Nat} {rows rows':List (List PV)} {r:RV} {Ka:RV→Prop} {us:Dm s} {u:Dm Ke} (h:AT P f args e e2 rows rows' (.rv r))
 (hg:GiveL [(k,v)] raw args) (ht:TabIs s.rw k v e e2 p rows) (hn:p.Nodup) (hd:d % 1000 ≠ k % 1000) (hk:Ke ⟨[],.ids [d,k]⟩ (zao (s.killed k p) d r)):ziS P f lent Ka (zF1 P f raw d (kk s us) (kk Ke u)) :=
 .inr (.inl ⟨k,v,e,e2,p,rows,rows',args,r,h,hg,ht,hn,hd,hk⟩)
theorem zu1 [zae] {f:FuncId} {pre pre' raw head out lent:List PV} {e j vj d:Nat} {ok:Bool} {Ka:RV→Prop} {us:Dm s} {u:Dm Ke} (h:AF P f pre head e out ok) (hq:zGa pre pre') (hraw:raw = pre' ++ [.own j vj]) (hj:s.rw j = ⟨vj,.sli e 1 false head⟩) (hp:zbM head) (hd:d % 1000 ≠ j % 1000) (hjl:j < 1000000)
 (hk:Ke ⟨[],.ids [d,j]⟩ (((s.row j ⟨vj + 1,.dead⟩).row d ⟨(s.rw d).ver + 1,.sli e 1 false out⟩).put (some d) (.tup [.own d ((s.rw d).ver + 1),.v (.bool ok)]))):ziS P f lent Ka (zF1 P f raw d (kk s us) (kk Ke u)):=by
 have hrd:((s.row j ⟨(s.rw j).ver + 1,.dead⟩).rw d) = s.rw d:=zal _ _ fun h=>hd (by rw [h])
 have hk2:Ke ⟨[],.ids [d,j]⟩ (zao (s.killed j []) d (rvF e out ok)):=by
  rw [zFg,znU,hrd,hj];exact hk
 exact .inr (.inr (.inl ⟨j,vj,e,pre,pre',head,out,ok,h,hq,hraw,hj,hp,hd,hjl,hk2⟩))
theorem zu2 [zae] {f:FuncId} {raw lent:List PV} {k d:Nat} {p:PV} {r:Row} {Ka:RV→Prop} {us:Dm s} {u:Dm Ke} (h:∀ s':St,s'.rw k = s.rw k→∀ K':St→Prop,K' ((s'.row k r).put (some d) p)→askG P s' f raw (some d) K') (hd:d % 1000 ≠ k % 1000)
 (hk:Ke ⟨[],.ids [d,k]⟩ ((s.row k r).put (some d) p)):ziS P f lent Ka (zF1 P f raw d (kk s us) (kk Ke u)):=.inr (.inr (.inr ⟨[],k,.im .junk,r,some p,fun s' hs _=>h s' hs,hd,hk⟩))
theorem zy8 [zae] (d:Nat) (f:Operand) (args:List Operand) (ts:Array TypeId):dK P T s ⟨some d,.call ⟨.value f,⟨args⟩,ts⟩,ty,pos,af,g⟩ (kk Ke) =
 zfd s.rw 3 (zyR s args) [] (kk fun l=>zfd s.rw 4 [s.ev f] l (kk fun l'=>zCy (s.ev f) (kk fun g caps=>ziS P g (zib s args ++ caps.map (zcC s.rw 3)) (kk fun rv=>Ke ⟨l',.res d⟩ (zao s d rv)) (zF1 P g (zyR s args ++ caps) d (kk s) (kk Ke))))):=by
 simp only [zfd,zCI,List.nil_append,List.flatMap_cons,List.flatMap_nil,List.append_nil]
 show (zeB P s.rw s.ev f ⟨args⟩ (fun rv=>Ke ⟨(zyR s args).flatMap (zeg s.rw 3) ++ zeg s.rw 4 (s.ev f),.res d⟩ (zao s d rv)) ∨ tdK P s f ⟨.value f,⟨args⟩,ts⟩ d Ke) = _
 unfold zeB tdK zCy ziS zF1 kk
 cases s.ev f <;> first | rfl | (simp;done) | skip
theorem ziY [zae] (f:Operand) (args:List Operand) (ts:Array TypeId):dK P T s ⟨none,.call ⟨.value f,⟨args⟩,ts⟩,ty,pos,af,g⟩ (kk Ke) =
 zfd s.rw 3 (zyR s args) [] (kk fun l=>zfd s.rw 4 [s.ev f] l (kk fun l'=>zCy (s.ev f) (kk fun g caps=>ziS P g (zib s args ++ caps.map (zcC s.rw 3)) (kk fun rv=>Ke ⟨l',.ids []⟩ s) False))):=by
 have e:=zCL (P:=P) (s:=s) f args (fun rv=>Ke ⟨(zyR s args).flatMap (zeg s.rw 3) ++ zeg s.rw 4 (s.ev f),.ids []⟩ s)
 simp only [zfd,zCI,List.nil_append,List.flatMap_cons,List.flatMap_nil,List.append_nil]
 exact e
theorem zqJ [zae] (d:Nat) (x y:Operand) (t t2:TypeId):dK P T s ⟨some d,.call ⟨.builtin .append,#[x,y],#[t,t2]⟩,ty,pos,af,g⟩ (kk Ke) =
 zdk [s.ev y] [] (kk fun l=>zdk [s.ev x] [d] (kk fun l'=>opK P T s ⟨some d,.call ⟨.builtin .append,#[x,y],#[t,t2]⟩,ty,pos,af,g⟩ (Ke ⟨l,.ids l'⟩))):=by
 have e:∀ p:PV,[p].flatMap zew = zew p:=fun p=>by simp
 unfold zdk
 simp only [kk,e,List.nil_append]
 rfl
theorem zu3 [zae] (d:Nat) (t:TypeId):dK P T s ⟨some d,.alloc t,ty,pos,af,g⟩ (kk Ke) = opK P T s ⟨some d,.alloc t,ty,pos,af,g⟩ (Ke ⟨[],.ids [d]⟩):=(rfl)
theorem zER [zae] (d:Nat) (t:TypeId) (x:Operand):dK P T s ⟨some d,.box t x,ty,pos,af,g⟩ (kk Ke) = zdk [s.ev x] [] (kk fun l=>opK P T s ⟨some d,.box t x,ty,pos,af,g⟩ (Ke ⟨l,.ids [d]⟩)):=by
 have e:∀ p:PV,[p].flatMap zew = zew p:=fun p=>by simp
 unfold zdk
 simp only [kk,e,List.nil_append]
 rfl
theorem zhl [zae] (d:Nat) (t:TypeId) (n:Nat) (parts:List (Nat × Operand)):dK P T s ⟨some d,.buildSlice t n ⟨parts⟩,ty,pos,af,g⟩ (kk Ke) = zdk (evs s parts) [d] (kk fun l=>opK P T s ⟨some d,.buildSlice t n ⟨parts⟩,ty,pos,af,g⟩ (Ke ⟨[],.ids l⟩)):=(rfl)
theorem zu4 [zae] (t:TypeId) (ad x:Operand):dK P T s ⟨dst,.store t ad x,ty,pos,af,g⟩ (kk Ke) = zdk [s.ev ad,s.ev x] [] (kk fun l=>opK P T s ⟨dst,.store t ad x,ty,pos,af,g⟩ (Ke ⟨[],.ids l⟩)):=by
 have e:[s.ev ad,s.ev x].flatMap zew = zew (s.ev ad) ++ zew (s.ev x):=by simp
 unfold zdk
 simp only [kk,e,List.nil_append]
 rfl
theorem zy9 [zae] (d:Nat) (t:TypeId) (l c:Operand):dK P T s ⟨some d,.makeSlice t l c,ty,pos,af,g⟩ (kk Ke) = opK P T s ⟨some d,.makeSlice t l c,ty,pos,af,g⟩ (Ke ⟨[],.ids [d]⟩):=(rfl)
end
def TK.isInt:TK→Bool | .int _=>true | _=>false
theorem zza (k:IntKind):TK.isInt (.int k) = true:=(rfl)
theorem zzb (k:IntKind):TK.agg (.int k) = false:=(rfl)
theorem zu5:TK.isInt (.bool) = false:=(rfl)
theorem zu6:TK.agg (.bool) = false:=(rfl)
theorem zzc:TK.isInt (.str) = false:=(rfl)
theorem zzd:TK.agg (.str) = false:=(rfl)
theorem zze (e:TypeId):TK.isInt (.sli e) = false:=(rfl)
theorem zzf (e:TypeId):TK.agg (.sli e) = false:=(rfl)
theorem zno (f:List (Nat × TypeId)):TK.isInt (.struct f) = false:=(rfl)
theorem znp (f:List (Nat × TypeId)):TK.agg (.struct f) = true:=(rfl)
theorem zzg (n:Nat) (e:TypeId):TK.isInt (.arr n e) = false:=(rfl)
theorem zzh (n:Nat) (e:TypeId):TK.agg (.arr n e) = true:=(rfl)
theorem zzi (k e:TypeId):TK.isInt (.map k e) = false:=(rfl)
theorem zzj (k e:TypeId):TK.agg (.map k e) = false:=(rfl)
theorem zqK:TK.isInt (.other) = false:=(rfl)
theorem zqL:TK.agg (.other) = false:=(rfl)
theorem zu7 (l:List Oper):l.toArray.toList = l:=(rfl)
section
variable {Kp:PV→Prop} {rw:Nat→Row}
section
variable (t:TypeId) (k:IntKind) (a b:Int)
theorem zzk:zde T .add t (.v (.int k a)) (.v (.int k b)) Kp = Kp (.v (.int k (k.wrap (a + b)))):=by simp [zde,zbD,zcb]
theorem zzl:zde T .sub t (.v (.int k a)) (.v (.int k b)) Kp = Kp (.v (.int k (k.wrap (a - b)))):=by simp [zde,zbD,zcb]
theorem zzm:zde T .mul t (.v (.int k a)) (.v (.int k b)) Kp = Kp (.v (.int k (k.wrap (a * b)))):=by simp [zde,zbD,zcb]
theorem zzn:zde T .quo t (.v (.int k a)) (.v (.int k b)) Kp = (b ≠ 0∧Kp (.v (.int k (k.wrap (a.tdiv b))))):=by simp [zde,zbD,zcb]
theorem zzo:zde T .rem t (.v (.int k a)) (.v (.int k b)) Kp = (b ≠ 0∧Kp (.v (.int k (a.tmod b)))):=by simp [zde,zbD,zcb]
theorem zzp:zde T .and t (.v (.int k a)) (.v (.int k b)) Kp = Kp (.v (.int k (zfE k a b))):=by simp [zde,zbD,zcb]
theorem zES:zde T .or t (.v (.int k a)) (.v (.int k b)) Kp = Kp (.v (.int k (ior k a b))):=by simp [zde,zbD,zcb]
theorem zzq:zde T .xor t (.v (.int k a)) (.v (.int k b)) Kp = Kp (.v (.int k (zJK k a b))):=by simp [zde,zbD,zcb]
theorem znq:zde T .andNot t (.v (.int k a)) (.v (.int k b)) Kp = Kp (.v (.int k (zco k a b))):=by simp [zde,zbD,zcb]
theorem zzr (k':IntKind):zde T .shl t (.v (.int k a)) (.v (.int k' b)) Kp = (0 ≤ b∧Kp (.v (.int k (zip k a b)))):=by simp [zde,zbD,zcb]
theorem zzs (k':IntKind):zde T .shr t (.v (.int k a)) (.v (.int k' b)) Kp = (0 ≤ b∧Kp (.v (.int k (zte k a b)))):=by simp [zde,zbD,zcb]
theorem zzt:zde T .eql t (.v (.int k a)) (.v (.int k b)) Kp = Kp (.v (.bool (a == b))):=by simp [zde,zbD,zcb]
theorem zzu:zde T .neq t (.v (.int k a)) (.v (.int k b)) Kp = Kp (.v (.bool (a != b))):=by simp [zde,zbD,zcb]
theorem zzv:zde T .lss t (.v (.int k a)) (.v (.int k b)) Kp = Kp (.v (.bool (decide (a < b)))):=by simp [zde,zbD,zcb]
theorem zzw:zde T .leq t (.v (.int k a)) (.v (.int k b)) Kp = Kp (.v (.bool (decide (a ≤ b)))):=by simp [zde,zbD,zcb]
theorem zzx:zde T .gtr t (.v (.int k a)) (.v (.int k b)) Kp = Kp (.v (.bool (decide (b < a)))):=by simp [zde,zbD,zcb]
theorem zzy:zde T .geq t (.v (.int k a)) (.v (.int k b)) Kp = Kp (.v (.bool (decide (b ≤ a)))):=by simp [zde,zbD,zcb]
end
theorem zkL (t:TypeId) (a b:ByteArray):zde T .eql t (.v (.string a)) (.v (.string b)) Kp = Kp (.v (.bool (a.toList == b.toList))):=by simp [zde,zn7]
theorem zkM (t:TypeId) (a b:ByteArray):zde T .neq t (.v (.string a)) (.v (.string b)) Kp = Kp (.v (.bool (!(a.toList == b.toList)))):=by simp [zde,zn7]
theorem zkN (t:TypeId) (a b:ByteArray):zde T .add t (.v (.string a)) (.v (.string b)) Kp = (a.size + b.size ≤ 9223372036854775807∧Kp (.v (.string (a ++ b)))):=by simp [zde,zn7]
theorem ziZ (t:TypeId) (a b:Bool):zde T .eql t (.v (.bool a)) (.v (.bool b)) Kp = ((T t).k = .bool∧0 < (T t).size∧Kp (.v (.bool (a == b)))):=by simp [zde]
theorem zi0 (t:TypeId) (a b:Bool):zde T .neq t (.v (.bool a)) (.v (.bool b)) Kp = ((T t).k = .bool∧0 < (T t).size∧Kp (.v (.bool (!(a == b))))):=by simp [zde]
theorem zET (b:Bool):unK .not (.v (.bool b)) Kp = Kp (.v (.bool !b)):=(rfl)
theorem zEU (k:IntKind) (n:Int):unK .neg (.v (.int k n)) Kp = Kp (.v (.int k (k.wrap (0 - n)))):=(rfl)
theorem zu8 (fr:Bool) (c:List PV) (off:Nat) (Km:Md→List PV→Nat→Prop):zsH rw (.eref fr c off) Km = Km (.set fr) c off:=(rfl)
def zkO (r:Row) (ver off:Nat) (Km:Md→List PV→Nat→Prop):Prop:=r.ver = ver∧match r.kind with | .box _ c=>Km .asis c off | .sli _ _ _ c=>Km (.set true) c off | .tab _ c=>Km .asis c off | _=>False
theorem zzz (j ver off:Nat) (Km:Md→List PV→Nat→Prop):zsH rw (.ref j ver off) Km = zkO (rw j) ver off Km:=(rfl)
theorem znr (ver off:Nat) (bt:TypeId) (c:List PV) (Km:Md→List PV→Nat→Prop):zkO ⟨ver,.box bt c⟩ ver off Km = Km .asis c off:=by simp [zkO]
theorem zns (ver off e:Nat) (c:List PV) (Km:Md→List PV→Nat→Prop):zkO ⟨ver,.tab e c⟩ ver off Km = Km .asis c off:=by simp [zkO]
theorem znt (ver off e sz:Nat) (fz:Bool) (c:List PV) (Km:Md→List PV→Nat→Prop):zkO ⟨ver,.sli e sz fz c⟩ ver off Km = Km (.set true) c off:=by simp [zkO]
def zi1 (r:Row) (ver:Nat) (K:PV→Prop):Prop:=r.ver = ver∧match r.kind with | .nil=>K (.v (.int .i64 0)) | .sli _ sz _ c=>0 < sz∧K (.v (.int .i64 ((c.length / sz:Nat):Int))) | .tab _ c=>K (.v (.int .i64 (c.length:Int))) | _=>False
def zF3 (rw:Nat→Row) (k:TK) (z:Nat) (x:PV) (K:PV→Prop):Prop :=
 0 < z∧match k with
 | .str=>(match x with | .v (.string s)=>K (.v (.int .i64 s.size)) | _=>False)
 | .sli _=>zx7 rw x fun sz n=>0 < sz∧K (.v (.int .i64 ((n / sz:Nat):Int)))
 | .arr n _=>K (.v (.int .i64 n))
 | _=>False
theorem zEV (t:TypeId) (x:PV):zAK T rw t x Kp = zF3 rw (T t).k (T t).size x Kp:=(rfl)
theorem zzA (b:ByteArray):zF3 rw .str 1 (.v (.string b)) Kp = Kp (.v (.int .i64 b.size)):=by simp [zF3]
theorem zEW (e:TypeId) (fr:Bool) (c:List PV):zF3 rw (.sli e) 1 (.sl fr 1 c) Kp = Kp (.v (.int .i64 (c.length:Int))):=by simp [zF3,zx7]
theorem zzB (e:TypeId) (j ver:Nat):zF3 rw (.sli e) 1 (.own j ver) Kp = zi1 (rw j) ver Kp:=by
 simp only [zF3,zx7,zi1,true_and,Nat.one_pos]
 cases (rw j).kind <;> simp
theorem znu (ver e:Nat) (fz:Bool) (c:List PV):zi1 ⟨ver,.sli e 1 fz c⟩ ver Kp = Kp (.v (.int .i64 (c.length:Int))):=by simp [zi1]
theorem znv (ver e:Nat) (c:List PV):zi1 ⟨ver,.tab e c⟩ ver Kp = Kp (.v (.int .i64 (c.length:Int))):=by simp [zi1]
theorem znw (ver:Nat):zi1 ⟨ver,.nil⟩ ver Kp = Kp (.v (.int .i64 0)):=by simp [zi1]
def zsP (T:Tab) (t:TypeId) (r:Row) (ver:Nat) (a:Int) (K:PV→Prop):Prop:=r.ver = ver∧match r.kind with | .mp f=>zFj T t∧K (.v (.int .i64 (f a))) | _=>False
theorem zu9 (t:TypeId) (j ver:Nat) (a:Int):zjo T rw t (.own j ver) (.v (.int .u64 a)) Kp = zsP T t (rw j) ver a Kp:=(rfl)
theorem znx (t:TypeId) (ver:Nat) (f:Int→Int) (a:Int):zsP T t ⟨ver,.mp f⟩ ver a Kp = (zFj T t∧Kp (.v (.int .i64 (f a)))):=by simp [zsP]
def zzC (T:Tab) (t:TypeId) (r:Row) (ver:Nat) (K:(Int→Int)→Prop):Prop:=r.ver = ver∧match r.kind with | .mp f=>zFj T t∧K f | _=>False
theorem zzD {s:St} {K:St→Prop} (t:TypeId) (j ver:Nat) (a v:Int):zHU T s t (.own j ver) (.v (.int .u64 a)) (.v (.int .i64 v)) (kk K) = zzC T t (s.rw j) ver (kk fun f=>K (s.row j ⟨ver,.mp (zrX f a v)⟩)):=(rfl)
theorem zqM (t:TypeId) (ver:Nat) (f:Int→Int) (K:(Int→Int)→Prop):zzC T t ⟨ver,.mp f⟩ ver (kk K) = (zFj T t∧K f):=by simp [zzC,kk]
def iaD (T:Tab) (rw:Nat→Row) (kd:TK) (z:Nat) (x i:PV) (K:PV→Prop):Prop :=
 match i with
 | .v (.int _ n) =>
   0 < z∧match kd with
   | .sli e =>
     (match x with
     | .sl fr sz c=>0 < (T e).size∧sz = (T e).size∧0 ≤ n∧n.toNat * sz < c.length∧K (.eref fr c (n.toNat * sz))
     | .own k ver=>(rw k).ver = ver∧match (rw k).kind with | .sli _ sz _ c=>0 < (T e).size∧sz = (T e).size∧0 ≤ n∧n.toNat * sz < c.length∧K (.ref k ver (n.toNat * sz)) | .tab _ c=>(T e).size = 1∧0 ≤ n∧n.toNat < c.length∧K (.ref k ver n.toNat) | _=>False
     | _=>False)
   | .arr len e=>zls x = true∧0 < (T e).size∧0 ≤ n∧n < len∧zdB rw x (K (zek x (n.toNat * (T e).size)))
   | _=>False
 | _=>False
theorem zJq (t:TypeId) (x i:PV):zbp T rw t x i Kp = iaD T rw (T t).k (T t).size x i Kp:=(rfl)
theorem zJr {e:TypeId} {k:IntKind} (fr:Bool) (c:List PV) (n:Int) (h2:(T e).size = 1) :
 iaD T rw (.sli e) 1 (.sl fr 1 c) (.v (.int k n)) Kp = (0 ≤ n∧n < (c.length:Int)∧Kp (.eref fr c n.toNat)):=by
 simp only [iaD,h2,Nat.mul_one,true_and,Nat.one_pos]
 refine propext ⟨fun ⟨a,b,c⟩=>⟨a,by omega,c⟩,fun ⟨a,b,c⟩=>⟨a,by omega,c⟩⟩
def zwU (r:Row) (j ver:Nat) (n:Int) (K:PV→Prop):Prop:=r.ver = ver∧match r.kind with | .sli _ sz _ c=>sz = 1∧0 ≤ n∧n < (c.length:Int)∧K (.ref j ver n.toNat) | .tab _ c=>0 ≤ n∧n < (c.length:Int)∧K (.ref j ver n.toNat) | _=>False
theorem zEX {e:TypeId} {k:IntKind} (j ver:Nat) (n:Int) (h2:(T e).size = 1) :
 iaD T rw (.sli e) 1 (.own j ver) (.v (.int k n)) Kp = zwU (rw j) j ver n Kp:=by
 simp only [iaD,h2,zwU,true_and,Nat.one_pos]
 cases (rw j).kind <;> simp
 ·rintro _ rfl h
  rw [Nat.mul_one]
  exact ⟨fun ⟨a,b⟩=>⟨by omega,b⟩,fun ⟨a,b⟩=>⟨by omega,b⟩⟩
 ·intros;omega
theorem zzE {e:TypeId} {k:IntKind} (len z j ver off:Nat) (n:Int) (h2:(T e).size = 1):iaD T rw (.arr len e) (z + 1) (.ref j ver off) (.v (.int k n)) Kp = (0 ≤ n∧n < (len:Int)∧zdB rw (.ref j ver off) (kk (Kp (.ref j ver (off + n.toNat))))):=by
 simp only [iaD,h2,Nat.mul_one,Nat.zero_lt_succ,Nat.one_pos,true_and,zls,zek,kk]
theorem zEY [zae] {e:TypeId} {k:IntKind} (len z j ver off:Nat) (n:Int) (h2:(T e).size = 1):iaD T rw (.arr len e) (z + 1) (.ref j ver (off + 1)) (.v (.int k n)) Kp = (0 ≤ n∧n < (len:Int)∧zdB rw (.ref j ver (off + 1)) (kk (Kp (.ref j ver (off + 1 + n.toNat))))):=zzE _ _ _ _ _ _ h2
theorem zzF [zae] {e:TypeId} {k:IntKind} (len z j ver:Nat) (n:Int) (h2:(T e).size = 1):iaD T rw (.arr len e) (z + 1) (.ref j ver 0) (.v (.int k n)) Kp = (0 ≤ n∧n < (len:Int)∧zdB rw (.ref j ver 0) (kk (Kp (.ref j ver n.toNat)))):=by
 rw [zzE _ _ _ _ _ _ h2,Nat.zero_add]
theorem zqN (j ver e:Nat) (c:List PV) (n:Int):zwU ⟨ver,.tab e c⟩ j ver n Kp = (0 ≤ n∧n < (c.length:Int)∧Kp (.ref j ver n.toNat)):=by simp [zwU]
theorem zqO (j ver e:Nat) (fz:Bool) (c:List PV) (n:Int):zwU ⟨ver,.sli e 1 fz c⟩ j ver n Kp = (0 ≤ n∧n < (c.length:Int)∧Kp (.ref j ver n.toNat)):=by simp [zwU]
theorem zfo {α:Type} (f:α→PV) (d:α) (xs:List α) {t:TypeId} {m:Md} (o:Nat) (g:α→PV) (hg:∀ x,m.fix (f x) = g x) (h0:(T t).k.agg = false) (h1:0 < (T t).size) :
 ldK T t m (xs.map f) o Kp = (o < xs.length∧Kp (g (xs.getD o d))):=by
 simp only [ldK,h0,h1,true_and,List.length_map]
 refine propext ⟨fun ⟨a,b⟩=>⟨a,?_⟩,fun ⟨a,b⟩=>⟨a,?_⟩⟩
 ·have e:(xs.map f).getD o .junk = f xs[o]:=by simp [List.getD,a]
  have e2:xs.getD o d = xs[o]:=by simp [List.getD,a]
  rw [e,hg] at b
  rw [e2]
  exact b
 ·have e:(xs.map f).getD o .junk = f xs[o]:=by simp [List.getD,a]
  have e2:xs.getD o d = xs[o]:=by simp [List.getD,a]
  rw [e,hg]
  rw [e2] at b
  exact b
theorem zwV (m:Md) (v:Value):m.fix (.v v) = .v v:=by cases m <;> rfl
theorem zEZ (fr f:Bool) (sz:Nat) (c:List PV):(Md.set fr).fix (.sl f sz c) = .sl fr sz c:=(rfl)
theorem zva (p:PV):Md.asis.fix p = p:=(rfl)
theorem zJs [zae] (xs:List Int) {t:TypeId} {m:Md} (o:Nat) (h0:(T t).k.agg = false) (h1:0 < (T t).size):ldK T t m (iL xs) o Kp = (o < xs.length∧Kp (.v (.int .i64 (xs.getD o 0)))) :=
 zfo _ 0 xs o _ (fun x=>zwV m _) h0 h1
theorem zJt [zae] (k:IntKind) (xs:List Int) {t:TypeId} {m:Md} (o:Nat) (h0:(T t).k.agg = false) (h1:0 < (T t).size):ldK T t m (kL k xs) o Kp = (o < xs.length∧Kp (.v (.int k (xs.getD o 0)))) :=
 zfo _ 0 xs o _ (fun x=>zwV m _) h0 h1
theorem zJu [zae] (xs:List Bool) {t:TypeId} {m:Md} (o:Nat) (h0:(T t).k.agg = false) (h1:0 < (T t).size):ldK T t m (bL xs) o Kp = (o < xs.length∧Kp (.v (.bool (xs.getD o false)))) :=
 zfo _ false xs o _ (fun x=>zwV m _) h0 h1
theorem zJv [zae] (xs:List ByteArray) {t:TypeId} {m:Md} (o:Nat) (h0:(T t).k.agg = false) (h1:0 < (T t).size):ldK T t m (sL xs) o Kp = (o < xs.length∧Kp (.v (.string (xs.getD o ⟨#[]⟩)))) :=
 zfo (fun n=>PV.v (.string n)) ⟨#[]⟩ xs o (fun n=>PV.v (.string n)) (fun x=>zwV m _) h0 h1
theorem zE0 [zae] (xs:List (List Int)) {t:TypeId} {fr:Bool} (o:Nat) (h0:(T t).k.agg = false) (h1:0 < (T t).size):ldK T t (.set fr) (iLL xs) o Kp = (o < xs.length∧Kp (.sl fr 1 (iL (xs.getD o [])))) :=
 zfo _ [] xs o (fun r=>.sl fr 1 (iL r)) (fun x=>rfl) h0 h1
theorem zJw {t:TypeId} {m:Md} (p:PV) (c:List PV) (h0:(T t).k.agg = false) (h1:0 < (T t).size):ldK T t m (p :: c) 0 Kp = evK (m.fix p) Kp:=by simp [ldK,h0,h1,evK]
theorem zJx {t:TypeId} {m:Md} (p q:PV) (c:List PV) (h0:(T t).k.agg = false) (h1:0 < (T t).size):ldK T t m (p :: q :: c) 1 Kp = evK (m.fix q) Kp:=by simp [ldK,h0,h1,evK]
theorem zJy {t:TypeId} {m:Md} (p q r:PV) (c:List PV) (h0:(T t).k.agg = false) (h1:0 < (T t).size):ldK T t m (p :: q :: r :: c) 2 Kp = evK (m.fix r) Kp:=by simp [ldK,h0,h1,evK]
theorem zJz {t:TypeId} {m:Md} (p q r s:PV) (c:List PV) (h0:(T t).k.agg = false) (h1:0 < (T t).size):ldK T t m (p :: q :: r :: s :: c) 3 Kp = evK (m.fix s) Kp:=by simp [ldK,h0,h1,evK]
theorem zzG {t:TypeId} {m:Md} (p:PV) (c0:List PV) (o:Nat) (h0:(T t).k.agg = true) (h1:0 < (T t).size):ldK T t m (p :: c0) o Kp = (o + (T t).size ≤ (p :: c0).length∧evK (.ag ((((p :: c0).drop o).take (T t).size).map m.fix)) Kp):=by simp [ldK,h0,h1,evK]
def zvb (T:Tab) (kd:TK) (z:Nat) (f:Nat) (K:Nat→TypeId→Prop):Prop :=
 0 < z∧match kd with | .struct fs=>(match fs[f]? with | some (o,ft)=>0 < (T ft).size∧K o ft | none=>False) | _=>False
def zJA (T:Tab) (x:Option (Nat × TypeId)) (K:Nat→TypeId→Prop):Prop:=match x with | some (o,ft)=>0 < (T ft).size∧K o ft | none=>False
theorem zvc (t:TypeId) (f:Nat) (Kf:Nat→TypeId→Prop):zdS T t f Kf = zvb T (T t).k (T t).size f Kf:=(rfl)
theorem zfp (fs:List (Nat × TypeId)) (z f:Nat) (Kf:Nat→TypeId→Prop):zvb T (.struct fs) (z + 1) f Kf = zJA T fs[f]? Kf:=by simp only [zvb,zJA,Nat.zero_lt_succ,true_and]
theorem zqP (o:Nat) (ft:TypeId) (Kf:Nat→TypeId→Prop) (h:0 < (T ft).size):zJA T (some (o,ft)) Kf = Kf o ft:=by simp [zJA,h]
theorem zhm [zae] (fs:List (Nat × TypeId)) (f:Nat) (Kf:Nat→TypeId→Prop):zvb T (.struct fs) 2 f Kf = zJA T fs[f]? Kf:=zfp fs 1 f Kf
theorem zqQ (fr:Bool) (c:List PV) (o:Nat) (A:Prop):zdB rw (.eref fr c o) (kk A) = A:=(rfl)
theorem zvd (f:FuncId) (c:List PV) (A:Prop):zdB rw (.clo f c) (kk A) = A:=(rfl)
def zid (r:Row) (ver:Nat) (A:Prop):Prop:=r.ver = ver∧r.kind.nd = true∧A
theorem zve (j ver o:Nat) (A:Prop):zdB rw (.ref j ver o) A = zid (rw j) ver A:=(rfl)
theorem zkP (ver:Nat) (bt:TypeId) (c:List PV) (A:Prop):zid ⟨ver,.box bt c⟩ ver (kk A) = A:=by simp [zid,RK.nd,kk]
theorem zqR (j v o:Nat):zls (.ref j v o) = true:=(rfl)
theorem zny (fr:Bool) (c:List PV) (o:Nat):zls (.eref fr c o) = true:=(rfl)
theorem zqS (j v o d:Nat):zek (.ref j v o) d = .ref j v (o + d):=(rfl)
theorem znz (fr:Bool) (c:List PV) (o d:Nat):zek (.eref fr c o) d = .eref fr c (o + d):=(rfl)
def zF4 (kd kd2:TK) (x:PV) (K:PV→Prop):Prop:=match kd,kd2,x with
 | .int _,.int k,.v (.int _ n)=>K (.v (.int k (k.wrap n)))
 | .str,.str,.v (.string s)=>K (.v (.string s))
 | _,_,_=>False
theorem zvf {a b:TypeId} {k:IntKind} (n:Int) (h1:(T a).k.isInt = true) (h2:(T b).k.isInt = true) (h3:0 < (T a).size) (h4:0 < (T b).size):zgd T rw a b (.v (.int k n)) Kp = zF4 (T a).k (T b).k (.v (.int k n)) Kp:=by
 revert h1 h2
 simp only [zgd,zF4,h3,h4,true_and]
 cases (T a).k <;> simp [TK.isInt]
 cases (T b).k <;> simp [TK.isInt]
theorem zqT (k1 k2 k:IntKind) (n:Int):zF4 (.int k1) (.int k2) (.v (.int k n)) Kp = Kp (.v (.int k2 (k2.wrap n))):=(rfl)
theorem zvg {a b:TypeId} (n:ByteArray) (h1:(T a).k = .str) (h2:(T b).k = .str) (h3:0 < (T a).size) (h4:0 < (T b).size):zgd T rw a b (.v (.string n)) Kp = Kp (.v (.string n)):=by
 simp [zgd,h1,h2,h3,h4]
theorem zqU {t:TypeId} {k:IntKind} (b:ByteArray) (n:Int) (h0:(T t).k = .str) (h1:0 < (T t).size):zuF T t (.v (.string b)) (.v (.int k n)) Kp = (0 ≤ n∧n.toNat < b.size∧Kp (.v (.int .u8 ((b.data.toList.getD n.toNat 0).toNat:Int)))):=by
 simp [zuF,h0,h1]
theorem znA (k k':IntKind) (a b:Int):zcQ true (.v (.int k a)) (.v (.int k' b)) Kp = Kp (.v (.int k (if b > a then b else a))):=(rfl)
theorem znB (k k':IntKind) (a b:Int):zcQ false (.v (.int k a)) (.v (.int k' b)) Kp = Kp (.v (.int k (if b < a then b else a))):=(rfl)
def zsQ (p:PV) (K:Int→Prop):Prop:=match p with | .v (.int _ n)=>K n | _=>False
theorem zvh (k:IntKind) (n:Int) (Ki:Int→Prop):zsQ (.v (.int k n)) Ki = Ki n:=(rfl)
def zoF (T:Tab) (rw:Nat→Row) (ev:Operand→PV) (kd:TK) (z:Nat) (x:PV) (lo hi mx:Option Operand) (K:PV→Prop):Prop :=
 0 < z∧match kd with
 | .str=>mx = none∧(match x with
  | .v (.string s)=>zmo ev lo 0 fun l=>zmo ev hi s.size fun h=>0 ≤ l∧l ≤ h∧h ≤ s.size∧K (.v (.string (s.extract l.toNat h.toNat)))
  | _=>False)
 | .sli e=>zgG rw x fun fr sz c=>0 < (T e).size∧sz = (T e).size ∧
  zmo ev lo 0 fun l=>zmo ev hi ((c.length / sz:Nat):Int) fun h=>zmo ev mx ((c.length / sz:Nat):Int) fun m=>0 ≤ l∧l ≤ h∧h ≤ m∧m ≤ ((c.length / sz:Nat):Int)∧(hi = none→mx = none) ∧
   K (.sl fr sz ((c.take (h.toNat * sz)).drop (l.toNat * sz)))
 | _=>False
theorem zE1 (t:TypeId) (ev:Operand→PV) (x:PV) (lo hi mx:Option Operand):zbC T rw ev t x lo hi mx Kp = zoF T rw ev (T t).k (T t).size x lo hi mx Kp:=(rfl)
theorem zvi {e:TypeId} (fr:Bool) (c:List PV) (x:Operand) (h2:(T e).size = 1):zoF T rw s.ev (.sli e) 1 (.sl fr 1 c) (some x) none none Kp = zsQ (s.ev x) (kk fun l=>0 ≤ l∧l ≤ (c.length:Int)∧Kp (.sl fr 1 (c.drop l.toNat))):=by
 simp only [zoF,zgG,zmo,h2,zsQ,kk]
 cases s.ev x <;> simp
 rename_i v
 cases v <;> simp
theorem zvj {e:TypeId} (fr:Bool) (c:List PV) (x:Operand) (h2:(T e).size = 1):zoF T rw s.ev (.sli e) 1 (.sl fr 1 c) none (some x) none Kp = zsQ (s.ev x) (kk fun l=>0 ≤ l∧l ≤ (c.length:Int)∧Kp (.sl fr 1 (c.take l.toNat))):=by
 simp only [zoF,zgG,zmo,h2,zsQ,kk]
 cases s.ev x <;> simp
 rename_i v
 cases v <;> simp
theorem zvk {e:TypeId} (fr:Bool) (c:List PV) (x y:Operand) (h2:(T e).size = 1):zoF T rw s.ev (.sli e) 1 (.sl fr 1 c) (some x) (some y) none Kp = zsQ (s.ev x) (kk fun l=>zsQ (s.ev y) (kk fun h=>0 ≤ l∧l ≤ h∧h ≤ (c.length:Int)∧Kp (.sl fr 1 ((c.take h.toNat).drop l.toNat)))):=by
 simp only [zoF,zgG,zmo,h2,zsQ,kk]
 cases s.ev x <;> simp
 rename_i v
 cases v <;> simp
 rename_i q n
 cases s.ev y <;> try simp
 rename_i v
 cases v <;> try simp
theorem zzH {e:TypeId} (fr:Bool) (c:List PV) (h2:(T e).size = 1):zoF T rw s.ev (.sli e) 1 (.sl fr 1 c) none none none Kp = Kp (.sl fr 1 c):=by
 simp only [zoF,zgG,zmo,h2]
 simp
theorem zvl (b:ByteArray) (x:Operand):zoF T rw s.ev .str 1 (.v (.string b)) (some x) none none Kp = zsQ (s.ev x) (kk fun l=>0 ≤ l∧l ≤ (b.size:Int)∧Kp (.v (.string (b.extract l.toNat b.size)))):=by
 simp only [zoF,zmo,zsQ,kk]
 cases s.ev x <;> simp
 rename_i v
 cases v <;> simp
theorem zvm (b:ByteArray) (x:Operand):zoF T rw s.ev .str 1 (.v (.string b)) none (some x) none Kp = zsQ (s.ev x) (kk fun h=>0 ≤ h∧h ≤ (b.size:Int)∧Kp (.v (.string (b.extract 0 h.toNat)))):=by
 simp only [zoF,zmo,zsQ,kk]
 cases s.ev x <;> simp
 rename_i v
 cases v <;> simp
theorem zvn (b:ByteArray) (x y:Operand):zoF T rw s.ev .str 1 (.v (.string b)) (some x) (some y) none Kp = zsQ (s.ev x) (kk fun l=>zsQ (s.ev y) (kk fun h=>0 ≤ l∧l ≤ h∧h ≤ (b.size:Int)∧Kp (.v (.string (b.extract l.toNat h.toNat))))):=by
 simp only [zoF,zmo,zsQ,kk]
 cases s.ev x <;> simp
 rename_i v
 cases v <;> simp
 rename_i q n
 cases s.ev y <;> try simp
 rename_i v
 cases v <;> try simp
def zvo (T:Tab) (r:Row) (k ver:Nat) (ev:Operand→PV) (e z:Nat) (rw:Nat→Row) (lo hi mx:Option Operand) (K:PV→Prop):Prop :=
 k < 1000000∧r.ver = ver∧match r.kind with | .sli _ sz true c=>zoF T rw ev (.sli e) z (.sl true sz c) lo hi mx K | _=>False
theorem zzI (e z k ver:Nat) (lo hi mx:Option Operand):zoF T rw s.ev (.sli e) z (.own k ver) lo hi mx Kp = zvo T (rw k) k ver s.ev e z rw lo hi mx Kp:=by
 have el:(k < lent) = (k < 1000000):=rfl
 simp only [zoF,zgG,zvo,el]
 cases (rw k).kind with
 | sli e' sz fz c =>
   cases fz <;> simp
   refine ⟨fun ⟨a,b,c,d,h⟩=>⟨b,c,a,d,h⟩,fun ⟨b,c,a,d,h⟩=>⟨a,b,c,d,h⟩⟩
 | _=>simp
theorem znC (e z k ver e' sz:Nat) (rw':Nat→Row) (c:List PV) (lo hi mx:Option Operand):zvo T ⟨ver,.sli e' sz true c⟩ k ver s.ev e z rw' lo hi mx Kp = (k < 1000000∧zoF T rw' s.ev (.sli e) z (.sl true sz c) lo hi mx Kp):=by simp [zvo]
theorem zzJ {Kf:List Nat→PV→Prop} (t:TypeId) (fr:Bool) (z:Nat) (c:List PV) (lo hi mx:Option Operand):zHQ T s t (.sl fr z c) lo hi mx (kk Kf) = zbC T s.rw s.ev t (.sl fr z c) lo hi mx (kk fun p=>Kf [] p):=(rfl)
theorem zE2 {Kf:List Nat→PV→Prop} (t:TypeId) (x:Value) (lo hi mx:Option Operand):zHQ T s t (.v x) lo hi mx (kk Kf) = zbC T s.rw s.ev t (.v x) lo hi mx (kk fun p=>Kf [] p):=(rfl)
def zzK (T:Tab) (s:St) (t:TypeId) (r:Row) (k ver:Nat) (lo hi mx:Option Operand) (K:List Nat→PV→Prop):Prop :=
 match r.kind with
 | .sli _ _ false _=>zbC T (s.freeze [k]).rw s.ev t (.own k ver) lo hi mx (kk fun p=>K [k] p)
 | _=>zbC T s.rw s.ev t (.own k ver) lo hi mx (kk fun p=>K [] p)
theorem zvp {Kf:List Nat→PV→Prop} (t:TypeId) (k ver:Nat) (lo hi mx:Option Operand):zHQ T s t (.own k ver) lo hi mx (kk Kf) = zzK T s t (s.rw k) k ver lo hi mx (kk Kf):=(rfl)
theorem zkQ {Kf:List Nat→PV→Prop} (t:TypeId) (v e z:Nat) (c:List PV) (k ver:Nat) (lo hi mx:Option Operand):zzK T s t ⟨v,.sli e z false c⟩ k ver lo hi mx (kk Kf) = zbC T (s.freeze [k]).rw s.ev t (.own k ver) lo hi mx (kk fun p=>Kf [k] p):=(rfl)
theorem zqV {Kf:List Nat→PV→Prop} (t:TypeId) (v e z:Nat) (c:List PV) (k ver:Nat) (lo hi mx:Option Operand):zzK T s t ⟨v,.sli e z true c⟩ k ver lo hi mx (kk Kf) = zbC T s.rw s.ev t (.own k ver) lo hi mx (kk fun p=>Kf [] p):=(rfl)
theorem zzL {Kc:List PV→Prop} (x:Value) (h:x.oneCell' = true):za1 rw (.v x) Kc = Kc [.v x]:=by simp [za1,h]
theorem zoG {Kc:List PV→Prop} (c:List PV):za1 rw (.ag c) Kc = Kc c:=(rfl)
theorem zvq {Kc:List PV→Prop} (fr:Bool) (sz:Nat) (c:List PV):za1 rw (.sl fr sz c) Kc = Kc [.sl fr sz c]:=(rfl)
theorem zqW {Kc:List PV→Prop} (f:FuncId) (c:List PV):za1 rw (.clo f c) Kc = Kc [.clo f c]:=(rfl)
def zhn (r:Row) (ver:Nat) (A:Prop):Prop:=r.ver = ver∧r.kind.slice = true∧A
theorem zqX {Kc:List PV→Prop} (j ver:Nat):za1 rw (.own j ver) Kc = zhn (rw j) ver (kk (Kc [.own j ver])):=(rfl)
theorem znD (ver e sz:Nat) (fz:Bool) (c:List PV) (A:Prop):zhn ⟨ver,.sli e sz fz c⟩ ver (kk A) = A:=by simp [zhn,RK.slice,kk]
theorem znE (ver e:Nat) (c:List PV) (A:Prop):zhn ⟨ver,.tab e c⟩ ver (kk A) = A:=by simp [zhn,RK.slice,kk]
theorem zqY {Kc:List PV→Prop} (j ver o:Nat):za1 rw (.ref j ver o) Kc = zid (rw j) ver (kk (Kc [.ref j ver o])):=(rfl)
theorem zE3 {Kc:List PV→List Nat→Prop} (x:Value) (h:x.oneCell' = true):zc8 rw (.v x) Kc = Kc [.v x] []:=by simp [zc8,h]
theorem zzM {Kc:List PV→List Nat→Prop} (sz:Nat) (c:List PV):zc8 rw (.sl true sz c) Kc = Kc [.sl false sz c] []:=by simp [zc8]
theorem zzN {Kc:List PV→List Nat→Prop} (c:List PV):zc8 rw (.ag c) Kc = ((∀ x ∈ c,isV x = true)∧Kc c []):=(rfl)
def zsR (r:Row) (k ver:Nat) (K:List PV→List Nat→Prop):Prop:=r.ver = ver∧k < lent∧(match r.kind with | .nil=>K [.sl false 1 []] [] | .sli _ sz _ c=>K [.sl false sz c] [k] | _=>False)
theorem zvr {Kc:List PV→List Nat→Prop} (j ver:Nat):zc8 rw (.own j ver) Kc = zsR (rw j) j ver Kc:=(rfl)
theorem zkR {Kc:List PV→List Nat→Prop} (j ver e sz:Nat) (fz:Bool) (c:List PV) (h:j < lent):zsR ⟨ver,.sli e sz fz c⟩ j ver Kc = Kc [.sl false sz c] [j]:=by simp [zsR,h]
def allP (rw:Nat→Row) (l:List PV):Prop:=∀ p ∈ l,zjb rw p
theorem zzO (rw:Nat→Row) (l:List PV):(∀ p ∈ l,zjb rw p) = allP rw l:=(rfl)
theorem zvs (rw:Nat→Row):allP rw [] = True:=by simp [allP]
theorem zqZ (rw:Nat→Row) (p:PV) (l:List PV):allP rw (p :: l) = (zjb rw p∧allP rw l):=by simp [allP]
def zeZ (s:St) (z j ver off:Nat) (r:Row) (x:PV) (K:St→Prop):Prop:=0 < z∧r.ver = ver∧match r.kind with
 | .box bt c=>za1 s.rw x fun new=>new.length = z∧off + new.length ≤ c.length∧allP s.rw new∧K (s.row j ⟨ver,.box bt (spl c off new)⟩)
 | .sli e sz false c=>zc8 s.rw x fun new fz=>new.length = z∧off + new.length ≤ c.length∧j ∉ fz∧K ((s.freeze fz).row j ⟨ver,.sli e sz false (spl c off new)⟩)
 | .tab e c=>za1 s.rw x fun new=>new.length = z∧off + new.length ≤ c.length∧allP s.rw new∧K (s.row j ⟨ver,.tab e (spl c off new)⟩)
 | _=>False
theorem zq0 (j ver off e:Nat) (c:List PV) (x:PV):zeZ s 1 j ver off ⟨ver,.tab e c⟩ x K = za1 s.rw x (kk fun new=>new.length = 1∧off + new.length ≤ c.length∧allP s.rw new∧K (s.row j ⟨ver,.tab e (spl c off new)⟩)):=by
 simp only [zeZ,Nat.one_pos,true_and,kk]
theorem zvt (t:TypeId) (j ver off:Nat) (x:PV):zrQ T s t (.ref j ver off) x K = zeZ s (T t).size j ver off (s.rw j) x K:=(rfl)
theorem zkS [zae]:s.freeze [] = s:=St.freeze_nil s
theorem zq1 (j ver off e sz:Nat) (c:List PV) (x:PV):zeZ s 1 j ver off ⟨ver,.sli e sz false c⟩ x K = zc8 s.rw x (kk fun new fz=>new.length = 1∧off + new.length ≤ c.length∧j ∉ fz∧K ((s.freeze fz).row j ⟨ver,.sli e sz false (spl c off new)⟩)):=by
 simp only [zeZ,Nat.one_pos,true_and,kk]
theorem zfq (z j ver off:Nat) (bt:TypeId) (c:List PV) (x:PV):zeZ s (z + 1) j ver off ⟨ver,.box bt c⟩ x K = za1 s.rw x (kk fun new=>new.length = z + 1∧off + new.length ≤ c.length∧allP s.rw new∧K (s.row j ⟨ver,.box bt (spl c off new)⟩)):=by
 simp only [zeZ,Nat.zero_lt_succ,true_and,kk]
theorem znF [zae] (j ver off:Nat) (bt:TypeId) (c:List PV) (x:PV):zeZ s 1 j ver off ⟨ver,.box bt c⟩ x K = za1 s.rw x (kk fun new=>new.length = 1∧off + new.length ≤ c.length∧allP s.rw new∧K (s.row j ⟨ver,.box bt (spl c off new)⟩)):=zfq 0 j ver off bt c x
theorem znG [zae] (j ver off:Nat) (bt:TypeId) (c:List PV) (x:PV):zeZ s 2 j ver off ⟨ver,.box bt c⟩ x K = za1 s.rw x (kk fun new=>new.length = 2∧off + new.length ≤ c.length∧allP s.rw new∧K (s.row j ⟨ver,.box bt (spl c off new)⟩)):=zfq 1 j ver off bt c x
theorem zE4 (rw:Nat→Row) (v:Value):zjb rw (.v v) = (v.oneCell' = true):=(rfl)
theorem zzP (rw:Nat→Row) (fr:Bool) (z:Nat) (c:List PV):zjb rw (.sl fr z c) = True:=(rfl)
theorem zq2 (rw:Nat→Row) (fr:Bool) (c:List PV) (o:Nat):zjb rw (.eref fr c o) = True:=(rfl)
theorem zvu (rw:Nat→Row) (f:FuncId) (c:List PV):zjb rw (.clo f c) = True:=(rfl)
theorem zoH (rw:Nat→Row) (j v:Nat):zjb rw (.own j v) = zhn (rw j) v (kk True):=by simp [zjb,zhn,kk]
theorem zvv (rw:Nat→Row) (j v o:Nat):zjb rw (.ref j v o) = zid (rw j) v (kk True):=by simp [zjb,zid,kk]
theorem znH [zae] (j ver off:Nat) (bt:TypeId) (c:List PV) (x:PV):zeZ s 3 j ver off ⟨ver,.box bt c⟩ x K = za1 s.rw x (kk fun new=>new.length = 3∧off + new.length ≤ c.length∧allP s.rw new∧K (s.row j ⟨ver,.box bt (spl c off new)⟩)):=zfq 2 j ver off bt c x
theorem znI [zae] (j ver off:Nat) (bt:TypeId) (c:List PV) (x:PV):zeZ s 4 j ver off ⟨ver,.box bt c⟩ x K = za1 s.rw x (kk fun new=>new.length = 4∧off + new.length ≤ c.length∧allP s.rw new∧K (s.row j ⟨ver,.box bt (spl c off new)⟩)):=zfq 3 j ver off bt c x
def zkT (T:Tab) (rw:Nat→Row) (y:PV) (K:List PV→Prop):Prop:=slK rw y fun fr sz news=>sz = 1∧((∀ p ∈ news,isV p = true) ∨ (fr = true∧∀ p ∈ news,zsG p = true))∧K news
def zkU (T:Tab) (s:St) (d j ver e:Nat) (r:Row) (news:List PV) (K:St→Prop):Prop:=r.ver = ver∧match r.kind with
 | .nil=>news.length * (T e).bytes ≤ 140737488355328∧K (zdm s d j (.sli e 1 false news))
 | .sli e' sz' false c=>e' = e∧sz' = 1∧(c.length + news.length) * (T e).bytes ≤ 140737488355328∧K (zdm s d j (.sli e 1 false (c ++ news)))
 | _=>False
def zJB (T:Tab) (s:St) (d e:Nat) (x:PV) (news:List PV) (K:St→Prop):Prop:=match x with
 | .v u=>zd5 u = true∧news.length * (T e).bytes ≤ 140737488355328∧K (zcI s d (.sli e 1 false news) (fun v=>.own d v))
 | .own j ver=>zkU T s d j ver e (s.rw j) news K
 | _=>False
def zKV (T:Tab) (s:St) (d:Nat) (kd:TK) (z:Nat) (x y:PV) (K:St→Prop):Prop :=
 0 < z∧match kd with
 | .sli e=>0 < (T e).size∧0 < (T e).bytes∧slK s.rw y fun fr sz news=>sz = (T e).size∧((∀ p ∈ news,isV p = true) ∨ (fr = true∧∀ p ∈ news,zsG p = true)) ∧
  (match x with
  | .v u=>zd5 u = true∧news.length * (T e).bytes ≤ 140737488355328∧K (zcI s d (.sli e (T e).size false news) (fun v=>.own d v))
  | .own k ver=>(s.rw k).ver = ver∧(match (s.rw k).kind with
   | .nil=>news.length * (T e).bytes ≤ 140737488355328∧K (zdm s d k (.sli e (T e).size false news))
   | .sli e' sz' false c=>e' = e∧sz' = (T e).size∧(c.length + news.length) * (T e).bytes ≤ 140737488355328∧K (zdm s d k (.sli e (T e).size false (c ++ news)))
   | _=>False)
  | _=>False)
 | _=>False
theorem zq3 (d:Nat) (t:TypeId) (x y:PV):zlk T s d t t x y K = zKV T s d (T t).k (T t).size x y K:=propext ⟨fun h=>h.2,fun h=>⟨rfl,h⟩⟩
theorem zvw {d e:Nat} (x y:PV) (h2:(T e).size = 1) (h3:0 < (T e).bytes):zKV T s d (.sli e) 1 x y K = zkT T s.rw y (kk fun news=>zJB T s d e x news (kk K)):=by
 unfold zKV zkT
 simp only [h2,h3,true_and,kk,Nat.one_pos]
 unfold zJB zkU
 cases x <;> rfl
theorem zvx (d e j ver:Nat) (news:List PV):zJB T s d e (.own j ver) news K = zkU T s d j ver e (s.rw j) news K:=(rfl)
theorem zvy (d e:Nat) (news:List PV):zJB T s d e (.v (.slice none 0 0)) news K = (news.length * (T e).bytes ≤ 140737488355328∧K (zcI s d (.sli e 1 false news) (fun v=>.own d v))):=by simp [zJB,zd5]
theorem znJ (d j ver e:Nat) (c news:List PV):zkU T s d j ver e ⟨ver,.sli e 1 false c⟩ news K = ((c.length + news.length) * (T e).bytes ≤ 140737488355328∧K (zdm s d j (.sli e 1 false (c ++ news)))):=by simp [zkU]
theorem znK (d j ver e:Nat) (news:List PV):zkU T s d j ver e ⟨ver,.nil⟩ news K = (news.length * (T e).bytes ≤ 140737488355328∧K (zdm s d j (.sli e 1 false news))):=by simp [zkU]
variable {Kc:List PV→Prop}
theorem zzQ (c:List PV) (h:∀ p ∈ c,isV p = true) (fr:Bool):zkT T rw (.sl fr 1 c) Kc = Kc c:=by
 have e:(∀ p ∈ c,isV p = true) = True:=eq_true h
 simp only [zkT,slK,e,true_or,true_and]
theorem zzR [zae] (xs:List Int) (fr:Bool):zkT T rw (.sl fr 1 (iL xs)) Kc = Kc (iL xs):=zzQ _ (by simpa using zym xs) fr
theorem zzS [zae] (k:IntKind) (xs:List Int) (fr:Bool):zkT T rw (.sl fr 1 (kL k xs)) Kc = Kc (kL k xs):=zzQ _ (by simpa using zI7 k xs) fr
theorem zzT [zae] (xs:List ByteArray) (fr:Bool):zkT T rw (.sl fr 1 (sL xs)) Kc = Kc (sL xs):=zzQ _ (by simpa using zEp xs) fr
theorem zvz [zae] (xs:List (List Int)):zkT T rw (.sl true 1 (iLL xs)) Kc = Kc (iLL xs):=by
 have:∀ p ∈ iLL xs,zsG p = true:=by simpa using zCH xs
 simp only [zkT,slK,true_and,true_or,eq_true this,or_true]
def zwW (c:List PV):Prop:=∀ p ∈ c,zsG p = true
def zwX (r:Row) (ver:Nat) (K:List PV→Prop):Prop:=r.ver = ver∧match r.kind with | .nil=>K [] | .sli _ sz _ c=>sz = 1∧zwW c∧K c | _=>False
theorem zq4 (j ver:Nat):zkT T rw (.own j ver) Kc = zwX (rw j) ver Kc:=by
 unfold zkT slK zwX
 dsimp only
 generalize (rw j).kind = kd
 cases kd with
 | sli e sz fz c =>
   dsimp only
   refine propext ⟨fun ⟨a,b,h,d⟩=>⟨a,b,?_,d⟩,fun ⟨a,b,h,d⟩=>⟨a,b,.inr ⟨rfl,h⟩,d⟩⟩
   rcases h with h | h
   ·intro p hp
    have:=h p hp
    cases p <;> simp [isV] at this
    exact this
   ·exact h.2
 | nil=>simp
 | _=>simp
theorem zq5 (ver e:Nat) (fz:Bool) (c:List PV):zwX ⟨ver,.sli e 1 fz c⟩ ver Kc = (zwW c∧Kc c):=by simp [zwX]
theorem zq6 (ver:Nat):zwX ⟨ver,.nil⟩ ver Kc = Kc []:=by simp [zwX]
theorem zvA:zwW [] = True:=by simp [zwW]
theorem zzU (xs:List Int):zwW (iL xs) = True:=by simp [zwW,iL,zsG,Value.oneCell']
theorem zzV (k:IntKind) (xs:List Int):zwW (kL k xs) = True:=by simp [zwW,kL,zsG,Value.oneCell']
theorem zzW (xs:List ByteArray):zwW (sL xs) = True:=by simp [zwW,sL,zsG,Value.oneCell']
theorem zzX (xs:List Bool):zwW (bL xs) = True:=eq_true fun p hp=>by
 simp only [bL,List.mem_map] at hp
 obtain ⟨x,_,rfl⟩:=hp
 rfl
theorem zvB (xs:List (List Int)):zwW (iLL xs) = True:=by simp [zwW,iLL,zsG]
theorem zq7 (j:Nat):[j].Nodup = True:=by simp
theorem zq8 (i j:Nat):[i,j].Nodup = (i ≠ j):=by simp
theorem zzY (j:Nat):(j < lent) = (j < 1000000):=(rfl)
theorem zJC (v u:Value) {Kn:List Nat→Prop}:zry rw (.v v) (.im (.v u)) Kn = (PV.v u = PV.v v∧Kn []):=(rfl)
def zq9 (r:Row) (j ver e sz:Nat) (c:List PV) (K:List Nat→Prop):Prop:=j < lent∧r.ver = ver∧(match r.kind with
 | .nil=>c = []∧K []
 | .sli e' sz' false c'=>e' = e∧sz' = sz∧c' = c∧K [j]
 | _=>False)
theorem zzZ (j ver e sz:Nat) (c:List PV) {Kn:List Nat→Prop}:zry rw (.own j ver) (.fr e sz c) Kn = zq9 (rw j) j ver e sz c Kn:=(rfl)
theorem zie (j ver e sz:Nat) (c c':List PV) {Kn:List Nat→Prop} (h:j < lent):zq9 ⟨ver,.sli e sz false c'⟩ j ver e sz c Kn = (c' = c∧Kn [j]):=by simp [zq9,h]
theorem zvC {t:Nat} {rv:RV}:zwY T s [.tmp t] rv = zry s.rw (s.sl t) rv List.Nodup:=(rfl)
theorem zra {a:Nat} {t:TypeId} {rv:RV}:zwY T s [.cell a t] rv = zsH s.rw (s.sl a) (kk fun m c off=>ldK T t m c off (kk fun p=>zry s.rw p rv List.Nodup)):=(rfl)
theorem zvD {r1 r2:ResultVar} {rv:RV}:zwY T s [r1,r2] rv = zz9 T s [r1,r2] (kk fun ps=>zry s.rw (.tup ps) rv List.Nodup):=(rfl)
theorem znL {r1 r2 r3:ResultVar} {rv:RV}:zwY T s [r1,r2,r3] rv = zz9 T s [r1,r2,r3] (kk fun ps=>zry s.rw (.tup ps) rv List.Nodup):=(rfl)
theorem zvE (Kr:List PV→Prop):zz9 T s [] (kk Kr) = Kr []:=(rfl)
theorem zvF (t:Nat) (rs:List ResultVar) (Kr:List PV→Prop):zz9 T s (.tmp t :: rs) (kk Kr) = evK (s.sl t) (kk fun p=>zz9 T s rs (kk fun ps=>Kr (p :: ps))):=(rfl)
theorem zrb (a:Nat) (t:TypeId) (rs:List ResultVar) (Kr:List PV→Prop):zz9 T s (.cell a t :: rs) (kk Kr) = zsH s.rw (s.sl a) (kk fun m c off=>ldK T t m c off (kk fun p=>zz9 T s rs (kk fun ps=>Kr (p :: ps)))):=(rfl)
theorem zvG (e sz:Nat) (c:List PV) {Kn:List Nat→Prop}:zry rw (.v (.slice none 0 0)) (.fr e sz c) Kn = (c = []∧Kn []):=by simp [zry,zmu,zd5]
theorem zvH (e sz:Nat) (c:List PV) {Kn:List Nat→Prop}:zAa rw (.v (.slice none 0 0)) (.fr e sz c) Kn = (c = []∧Kn []):=by simp [zAa,zmu,zd5]
theorem zvI (e sz:Nat) (c:List PV) {Kn:List Nat→Prop}:zmu rw (.v (.slice none 0 0)) (.fr e sz c) Kn = (c = []∧Kn []):=by simp [zmu,zd5]
theorem znM [zae] (d e sz:Nat) (y:Value) (c:List PV):zao s d (.tup [.ag [.fr e sz c],.im (.v y)]) = (s.row d ⟨(s.rw d).ver + 1,.sli e sz false c⟩).put (some d) (.tup [.ag [.own d ((s.rw d).ver + 1)],.v y]):=by
 unfold zao
 simp [zbS,zcG,zak,zaw,za0,zcv,zbV,zbF,zan,St.row,zhA]
 rfl
theorem znN [zae] (d e sz:Nat) (x y:Value) (c:List PV):zao s d (.tup [.ag [.im (.v x),.fr e sz c],.im (.v y)]) = (s.row d ⟨(s.rw d).ver + 1,.sli e sz false c⟩).put (some d) (.tup [.ag [.v x,.own d ((s.rw d).ver + 1)],.v y]):=by
 unfold zao
 simp [zbS,zcG,zak,zaw,za0,zcv,zbV,zbF,zan,St.row,zhA]
 rfl
theorem zrc [zae] (d e sz:Nat) (y:Value) (c:List PV):zao s d (.tup [.ag [.fr e sz c],.im (.v y)]) = (s.row d ⟨(s.rw d).ver + 1,.sli e sz false c⟩).put (some d) (.tup [.ag [.own d ((s.rw d).ver + 1)],.v y]):=by
 unfold zao
 simp [zbS,zcG,zak,zaw,za0,zcv,zbV,zbF,zan,St.row,zhA]
 rfl
theorem zho (d:Nat) (v:Value):zao s d (.im (.v v)) = s.put (some d) (.v v):=by
 unfold zao
 simp [zak,zaw,za0,zbV,zhA]
theorem zjQ (d e sz:Nat) (c:List PV):zao s d (.fr e sz c) = (s.row d ⟨(s.rw d).ver + 1,.sli e sz false c⟩).put (some d) (.own d ((s.rw d).ver + 1)):=by
 unfold zao
 simp [zak,zaw,za0,zbV,zan,St.row]
 rfl
theorem zrd [zae] (d e sz:Nat) (c:List PV):zao s d (.ag [.fr e sz c]) = (s.row d ⟨(s.rw d).ver + 1,.sli e sz false c⟩).put (some d) (.ag [.own d ((s.rw d).ver + 1)]):=by
 unfold zao
 simp [zcG,zak,zaw,za0,zcv,zbF,zbV,zan,St.row]
 rfl
theorem zre [zae] (d e sz:Nat) (x:Value) (c:List PV):zao s d (.ag [.im (.v x),.fr e sz c]) = (s.row d ⟨(s.rw d).ver + 1,.sli e sz false c⟩).put (some d) (.ag [.v x,.own d ((s.rw d).ver + 1)]):=by
 unfold zao
 simp [zcG,zak,zaw,za0,zcv,zbF,zbV,zan,St.row,zhA]
 rfl
theorem zrf [zae] (d e sz e2 sz2:Nat) (x y:Value) (c c2:List PV):zao s d (.ag [.im (.v x),.fr e sz c,.im (.v y),.fr e2 sz2 c2]) =
 ((s.row (d + 1000) ⟨(s.rw (d + 1000)).ver + 1,.sli e2 sz2 false c2⟩).row d ⟨(s.rw d).ver + 1,.sli e sz false c⟩).put (some d) (.ag [.v x,.own d ((s.rw d).ver + 1),.v y,.own (d + 1000) ((s.rw (d + 1000)).ver + 1)]):=by
 unfold zao
 simp [zcG,zak,zaw,za0,zcv,zbF,zbV,zan,St.row,zhA]
 rfl
theorem zrg [zae] (d:Nat) (x y:Value):zao s d (.tup [.im (.v x),.im (.v y)]) = s.put (some d) (.tup [.v x,.v y]):=by
 unfold zao
 simp [zbS,zak,zaw,za0,zcv,zbF,zbV,zan,St.row,zhA]
theorem zrh [zae] (d e sz:Nat) (c:List PV) (y:Value):zao s d (.tup [.fr e sz c,.im (.v y)]) = (s.row d ⟨(s.rw d).ver + 1,.sli e sz false c⟩).put (some d) (.tup [.own d ((s.rw d).ver + 1),.v y]):=by
 unfold zao
 simp [zbS,zak,zaw,za0,zcv,zbF,zbV,zan,St.row,zhA]
 rfl
theorem imm_ag [zae] (l:List RV):(RV.ag l).imm = .ag (l.map RV.imm):=RV.imm_ag l
theorem imm_tup [zae] (l:List RV):(RV.tup l).imm = .tup (l.map RV.imm):=RV.imm_tup l
theorem zz0 (ps:List PV) (l:List RV) {Kn:List Nat→Prop}:zry rw (.ag ps) (.ag l) Kn = zx5 (zAa rw) ps l Kn:=(rfl)
theorem zvJ (ps:List PV) (l:List RV) {Kn:List Nat→Prop}:zry rw (.tup ps) (.tup l) Kn = zx5 (zAa rw) ps l Kn:=(rfl)
theorem zz1 (ps:List PV) (l:List RV) {Kn:List Nat→Prop}:zAa rw (.ag ps) (.ag l) Kn = zx5 (zmu rw) ps l Kn:=(rfl)
theorem zvK (f:PV→RV→(List Nat→Prop)→Prop) {Kn:List Nat→Prop}:zx5 f [] [] Kn = Kn []:=(rfl)
theorem zri (f:PV→RV→(List Nat→Prop)→Prop) (p:PV) (ps:List PV) (r:RV) (rs:List RV) {Kn:List Nat→Prop}:zx5 f (p :: ps) (r :: rs) Kn = f p r (kk fun a=>zx5 f ps rs (kk fun b=>Kn (a ++ b))):=(rfl)
theorem zE5 (v u:Value) {Kn:List Nat→Prop}:zAa rw (.v v) (.im (.v u)) Kn = (PV.v u = PV.v v∧Kn []):=(rfl)
theorem znO (e e2:Nat) (rows:List (List PV)) {Kn:List Nat→Prop}:zmu rw (.v (.slice none 0 0)) (.tb e e2 rows) (kk Kn) = (rows = []∧Kn []):=by simp [zmu,zd5,kk]
theorem zE6 (v u:Value) {Kn:List Nat→Prop}:zmu rw (.v v) (.im (.v u)) Kn = (PV.v u = PV.v v∧Kn []):=(rfl)
theorem zvL (j ver e sz:Nat) (c:List PV) {Kn:List Nat→Prop}:zAa rw (.own j ver) (.fr e sz c) Kn = zq9 (rw j) j ver e sz c Kn:=(rfl)
theorem zvM (j ver e sz:Nat) (c:List PV) {Kn:List Nat→Prop}:zmu rw (.own j ver) (.fr e sz c) Kn = zq9 (rw j) j ver e sz c Kn:=(rfl)
theorem zE7 (v:Value):(RV.im (.v v)).imm = .v v:=by simp [RV.imm,zhA]
theorem zE8 (e sz:Nat) (c:List PV):(RV.fr e sz c).imm = .sl true sz c:=by simp [RV.imm]
theorem zvN (rw:Nat→Row) (n:Nat) (k:IntKind) (x:Int):zcC rw (n + 1) (.v (.int k x)) = .v (.int k x):=(rfl)
theorem zrj (rw:Nat→Row) (n:Nat) (x:Bool):zcC rw (n + 1) (.v (.bool x)) = .v (.bool x):=(rfl)
theorem zkV (rw:Nat→Row) (n:Nat) (x:ByteArray):zcC rw (n + 1) (.v (.string x)) = .v (.string x):=(rfl)
theorem zvO (rw:Nat→Row) (n:Nat):zcC rw (n + 1) (.v (.slice none 0 0)) = .sl false 1 []:=(rfl)
theorem zz2 (rw:Nat→Row) (n:Nat) (fr:Bool) (sz:Nat) (c:List PV):zcC rw (n + 1) (.sl fr sz c) = .sl false sz c:=(rfl)
theorem zz3 (rw:Nat→Row) (n:Nat) (c:List PV):zcC rw (n + 1) (.ag c) = .ag (c.map (zcC rw n)):=(rfl)
theorem zrk (rw:Nat→Row) (n:Nat) (fr:Bool) (c:List PV) (o:Nat):zcC rw (n + 1) (.eref fr c o) = .eref false c o:=(rfl)
def zkW (rw:Nat→Row) (n:Nat) (r:Row) (ver off:Nat):PV:=if r.ver = ver then (match r.kind with | .box _ c=>.eref false (c.map (zcC rw n)) off | .sli _ _ _ c=>.eref false c off | _=>.junk) else .junk
theorem zvP (rw:Nat→Row) (n j ver off:Nat):zcC rw (n + 1) (.ref j ver off) = zkW rw n (rw j) ver off:=(rfl)
theorem zkX (rw:Nat→Row) (n ver off:Nat) (t:TypeId) (c:List PV):zkW rw n ⟨ver,.box t c⟩ ver off = .eref false (c.map (zcC rw n)) off:=by simp [zkW]
theorem zkY (rw:Nat→Row) (n ver off e z:Nat) (fz:Bool) (c:List PV):zkW rw n ⟨ver,.sli e z fz c⟩ ver off = .eref false c off:=by simp [zkW]
theorem zvQ (rw:Nat→Row) (n:Nat) (f:FuncId) (c:List PV):zcC rw (n + 1) (.clo f c) = .clo f (c.map (zcC rw n)):=(rfl)
def zgC (rw:Nat→Row) (n:Nat) (r:Row) (ver:Nat):PV:=if r.ver = ver then (match r.kind with | .nil=>.sl false 1 [] | .sli _ sz _ c=>.sl false sz c | .tab _ c=>.sl false 1 (c.map (zmz rw)) | _=>.junk) else .junk
theorem zvR (rw:Nat→Row) (n j ver:Nat):zcC rw (n + 1) (.own j ver) = zgC rw n (rw j) ver:=(rfl)
theorem zkZ (rw:Nat→Row) (n:Nat) (ver e:Nat) (c:List PV):zgC rw n ⟨ver,.tab e c⟩ ver = .sl false 1 (c.map (zmz rw)):=by simp [zgC]
theorem zk0 (rw:Nat→Row) (n:Nat) (ver e sz:Nat) (fz:Bool) (c:List PV):zgC rw n ⟨ver,.sli e sz fz c⟩ ver = .sl false sz c:=by simp [zgC]
theorem zk1 (rw:Nat→Row) (n:Nat) (ver:Nat):zgC rw n ⟨ver,.nil⟩ ver = .sl false 1 []:=by simp [zgC]
end
def zz4:PV→Prop | .sl _ sz c=>c.length ≤ 9223372036854775807 * sz | _=>True
def zk2:PV→Prop | .sl _ sz c=>c.length ≤ 9223372036854775807 * sz∧∀ p ∈ c,zz4 p | .ag c=>∀ p ∈ c,zz4 p | .eref _ c _=>∀ p ∈ c,zz4 p | _=>True
def zoI:PV→Prop | .sl _ sz c=>c.length ≤ 9223372036854775807 * sz∧∀ p ∈ c,zk2 p | .ag c=>∀ p ∈ c,zk2 p | .eref _ c _=>∀ p ∈ c,zk2 p | .clo _ c=>∀ p ∈ c,zk2 p | _=>True
def zE9:List PV→Prop | []=>True | p :: ps=>zoI p∧zE9 ps
theorem zoJ {w:World} {E:Env} {lo:Nat} {p:PV} {x:Value} (h:Rep w E lo p x):zz4 p:=by
 cases h <;> try trivial
 next sz len cap cells a cs hl hc hm hr hh =>
  show cells.length ≤ 9223372036854775807 * sz
  rw [hl]
  exact Nat.mul_le_mul_right _ (Nat.le_trans hc hm)
theorem zjR [zae] {w:World} {E:Env} {lo:Nat} {p:PV} {x:Value} (h:Rep w E lo p x):zk2 p:=by
 cases h <;> try trivial
 case sl fr sz len cap cells a cs hl hc hm hr hh =>
  refine ⟨?_,fun p hp=>?_⟩
  ·rw [hl];exact Nat.mul_le_mul_right _ (Nat.le_trans hc hm)
  ·obtain ⟨i,hi,rfl⟩:=List.getElem_of_mem hp;exact zoJ (hh i hi)
 case eref fr cells off b o cs hr hh=>intro p hp;obtain ⟨i,hi,rfl⟩:=List.getElem_of_mem hp;exact zoJ (hh i hi)
 case ag cells vs hl hh=>intro p hp;obtain ⟨i,hi,rfl⟩:=List.getElem_of_mem hp;exact zoJ (hh i hi (by omega))
theorem zCM [zae] {w:World} {E:Env} {lo:Nat} {p:PV} {x:Value} (h:Rep w E lo p x):zoI p:=by
 cases h <;> try trivial
 case sl fr sz len cap cells a cs hl hc hm hr hh =>
  refine ⟨?_,fun p hp=>?_⟩
  ·rw [hl];exact Nat.mul_le_mul_right _ (Nat.le_trans hc hm)
  ·obtain ⟨i,hi,rfl⟩:=List.getElem_of_mem hp;exact zjR (hh i hi)
 case eref fr cells off b o cs hr hh=>intro p hp;obtain ⟨i,hi,rfl⟩:=List.getElem_of_mem hp;exact zjR (hh i hi)
 case ag cells vs hl hh=>intro p hp;obtain ⟨i,hi,rfl⟩:=List.getElem_of_mem hp;exact zjR (hh i hi (by omega))
 case clo f cells vs hl hh=>intro p hp;obtain ⟨i,hi,rfl⟩:=List.getElem_of_mem hp;exact zjR (hh i hi (by omega))
theorem zsS [zae] {w:World} {E:Env} {lo:Nat} {ps:List PV} {vs:List Value} (h:zbl w E lo ps vs):zE9 ps:=by
 have:∀ p ∈ ps,zoI p:=by
  intro p hp
  obtain ⟨i,hi,rfl⟩:=List.getElem_of_mem hp
  exact zCM (h.2 i hi (by rw [← h.1];exact hi))
 clear h
 induction ps with
 | nil=>trivial
 | cons p ps ih=>exact ⟨this p (by simp),ih fun q hq=>this q (by simp [hq])⟩
theorem za4:zE9 [] = True:=(rfl)
theorem zaN (p:PV) (ps:List PV):zE9 (p :: ps) = (zoI p∧zE9 ps):=(rfl)
theorem zcD (x:Value):zoI (.v x) = True:=(rfl)
theorem zdx (x:Value):zk2 (.v x) = True:=(rfl)
theorem zcE (fr:Bool) (xs:List Int):zk2 (.sl fr 1 (iL xs)) = (xs.length ≤ 9223372036854775807):=by simp [zk2,zz4,iL]
theorem zbI (fr:Bool) (xs:List Int):zoI (.sl fr 1 (iL xs)) = (xs.length ≤ 9223372036854775807):=by simp [zoI,zk2,iL]
theorem zbZ (x y:PV):zoI (.ag [x,y]) = (zk2 x∧zk2 y):=by simp [zoI]
theorem AC.go [zae] {f:FuncId} {fn:Func} {c:Code} {rs:List ResultVar} {args:List PV} {rv:RV} (hT:T.Ok P) (hm:P.follows .mixedOrders = true) (hf:P.funcs[f]? = some fn) (hname:(fn.name == "runtime.NumGoroutine") = false)
 (hb:fn.body = some c) (hr:fn.results.toList = rs) (hfit:(fits fn.ntmps c && decide (args.length ≤ fn.ntmps) && decide (fn.results.toList.length ≤ 4)) = true) (h:zE9 args→cwp P T c (zKD T rs rv) (St.init args)):AC P f args rv:=by
 subst hr
 refine ⟨⟨fn,hf,hname,by rw [hb];rfl⟩,fun w vals hphi hv=>?_⟩
 exact (AC.of hT hm hf hname hb hfit (h (zsS hv))).2 w vals hphi hv
theorem AM.go [zae] {f:FuncId} {fn:Func} {c:Code} {rs:List ResultVar} {args:List PV} {ins:List LR} {outs:List (List PV)} {x:Value} (hT:T.Ok P) (hm:P.follows .mixedOrders = true) (hf:P.funcs[f]? = some fn) (hname:(fn.name == "runtime.NumGoroutine") = false)
 (hb:fn.body = some c) (hr:fn.results.toList = rs) (hfit:(fits fn.ntmps c && decide (args.length ≤ fn.ntmps) && decide (fn.results.toList.length ≤ 4)) = true) (hi:∀ r ∈ ins,zbM r.c) (ho:∀ c ∈ outs,zbM c) (hlen:outs.length = ins.length)
 (h:(∀ r ∈ ins,r.c.length ≤ 9223372036854775807 * r.sz)→cwp P T c (zKC T rs ins outs x) (St.initM args ins)):AM P f args ins outs x:=by
 subst hr
 exact AM.of hT hm hf hname hb hfit hi ho hlen h
theorem za9 [zae] (xs:List Int):zbM (iL xs):=by have:=zym xs;unfold zbM;rw [this];trivial
theorem zvS [zae] (xs:List ByteArray):zbM (sL xs):=by have:=zEp xs;unfold zbM;rw [this];trivial
theorem zeb:∀ c ∈ ([]:List (List PV)),zbM c:=fun c h=>by cases h
theorem zcl {a:List PV} {l:List (List PV)} (h1:zbM a) (h2:∀ c ∈ l,zbM c):∀ c ∈ a :: l,zbM c:=fun c hc=>by
 rcases List.mem_cons.1 hc with rfl | hc
 ·exact h1
 ·exact h2 c hc
theorem zec:∀ r ∈ ([]:List LR),zbM r.c:=fun c h=>by cases h
theorem zcm {e sz:Nat} {a:List PV} {l:List LR} (h1:zbM a) (h2:∀ r ∈ l,zbM r.c):∀ r ∈ (⟨e,sz,a⟩:LR) :: l,zbM r.c:=fun c hc=>by
 rcases List.mem_cons.1 hc with rfl | hc
 ·exact h1
 ·exact h2 c hc
theorem zjS (args:List PV) (ins:List LR) (i:Nat):(St.initM args ins).sl i = args.getD i .junk:=(rfl)
theorem zjT (args:List PV) (ins:List LR) (i:Nat):(St.initM args ins).rw i = inR ins i:=(rfl)
theorem zvT (ins:List LR) (k:Nat) (h:k < 1000000):inR ins k = ⟨0,.dead⟩:=by
 unfold inR;rw [if_neg (by show ¬ (1000000 ≤ k);omega)]
theorem zCN [zae] (e sz:Nat) (c:List PV) (l:List LR):inR (⟨e,sz,c⟩ :: l) 1000000 = ⟨1,.sli e sz false c⟩:=zrM (ins:=⟨e,sz,c⟩ :: l) (i:=0) rfl
theorem zCO [zae] (r:LR) (e sz:Nat) (c:List PV) (l:List LR):inR (r :: ⟨e,sz,c⟩ :: l) 1000001 = ⟨1,.sli e sz false c⟩:=zrM (ins:=r :: ⟨e,sz,c⟩ :: l) (i:=1) rfl
theorem zvU (rs:List ResultVar) (ins:List LR) (outs:List (List PV)) (x:Value):zKC T rs ins outs x .ret s = zF6 T s rs ins outs x:=(rfl)
theorem zrl (rs:List ResultVar) (ins:List LR) (outs:List (List PV)) (x:Value):zKC T rs ins outs x .norm s = zF6 T s rs ins outs x:=(rfl)
theorem zvV (r:Nat) (ins:List LR) (outs:List (List PV)) (x:Value):zF6 T s [.tmp r] ins outs x = (zsU s.rw 0 ins outs∧s.sl r = .v x):=(rfl)
theorem zrm (ins:List LR) (outs:List (List PV)) (x:Value):zF6 T s [] ins outs x = (zsU s.rw 0 ins outs∧x = .tuple #[]):=(rfl)
theorem zz5 (rw:Nat→Row) (e sz:Nat) (a c:List PV):zsU rw 0 [⟨e,sz,a⟩] [c] = (rw 1000000 = ⟨1,.sli e sz false c⟩):=by
 show (rw 1000000 = ⟨1,.sli e sz false c⟩∧True) = _
 rw [and_true]
theorem zz6 (rw:Nat→Row) (e sz e' sz':Nat) (a c a' c':List PV):zsU rw 0 [⟨e,sz,a⟩,⟨e',sz',a'⟩] [c,c'] = (rw 1000000 = ⟨1,.sli e sz false c⟩∧rw 1000001 = ⟨1,.sli e' sz' false c'⟩):=by
 show (rw 1000000 = ⟨1,.sli e sz false c⟩∧rw 1000001 = ⟨1,.sli e' sz' false c'⟩∧True) = _
 rw [and_true]
theorem zoK (j v e sz:Nat) (a c:List PV):s.wrote [(j,v)] [⟨e,sz,a⟩] [c] = s.row j ⟨v,.sli e sz false c⟩:=by
 unfold St.wrote St.row zdQ
 congr 1
 funext k
 by_cases h:k = j
 ·subst h;simp
 ·have:(j == k) = false:=by simp;exact fun e=>h e.symm
  simp [h,this]
theorem zoL [zae] (j v e sz j' v' e' sz':Nat) (a c a' c':List PV) (hj:j ≠ j'):s.wrote [(j,v),(j',v')] [⟨e,sz,a⟩,⟨e',sz',a'⟩] [c,c'] = (s.row j ⟨v,.sli e sz false c⟩).row j' ⟨v',.sli e' sz' false c'⟩:=by
 have hn:([(j,v),(j',v')].map (·.1)).Nodup:=by simpa using hj
 unfold St.wrote St.row
 congr 1
 funext k
 show zdQ s.rw [(j,v),(j',v')] [⟨e,sz,a⟩,⟨e',sz',a'⟩] [c,c'] k = if k = j' then ⟨v',.sli e' sz' false c'⟩ else if k = j then ⟨v,.sli e sz false c⟩ else s.rw k
 by_cases h:k = j'
 ·subst h
  rw [if_pos rfl]
  exact zlj hn (i:=1) (j:=(k,v')) (r:=⟨e',sz',a'⟩) (c:=c') rfl rfl rfl
 ·rw [if_neg h]
  by_cases h':k = j
  ·subst h'
   rw [if_pos rfl]
   exact zlj hn (i:=0) (j:=(k,v)) (r:=⟨e,sz,a⟩) (c:=c) rfl rfl rfl
  ·rw [if_neg h']
   exact znZ (by simp [h,h'])
theorem AG.go [zae] {f:FuncId} {fn:Func} {c:Code} {rs:List ResultVar} {args:List PV} {R0:Nat→Row} {post:(Nat→Row)→PV→Prop} (hT:T.Ok P) (hm:P.follows .mixedOrders = true) (hf:P.funcs[f]? = some fn) (hname:(fn.name == "runtime.NumGoroutine") = false)
 (hb:fn.body = some c) (hr:fn.results.toList = rs) (hfit:(fits fn.ntmps c && decide (args.length ≤ fn.ntmps) && decide (fn.results.toList.length ≤ 4)) = true)
 (h:zE9 args→(∀ k,zk6 (R0 k).kind)→∀ s:St,(∀ i,s.sl i = args.getD i .junk)→(∀ k,s.rw k = R0 k)→cwp P T c (zF5 T rs post) s):AG P f args R0 post:=by
 subst hr
 refine ⟨⟨fn,hf,hname,by rw [hb];rfl⟩,fun w M E vals hw hR hv=>?_⟩
 exact (AG.of hT hm hf hname hb hfit (fun hl=>h (zsS hv) hl _ (fun _=>rfl) (fun _=>rfl))).2 w M E vals hw hR hv
theorem zvW (rs:List ResultVar) (post:(Nat→Row)→PV→Prop):zF5 T rs post .ret s = zCz T s rs post:=(rfl)
theorem zrn (rs:List ResultVar) (post:(Nat→Row)→PV→Prop):zF5 T rs post .norm s = zCz T s rs post:=(rfl)
theorem zvX (r:Nat) (post:(Nat→Row)→PV→Prop):zCz T s [.tmp r] post = post s.rw (s.sl r):=(rfl)
theorem zro (post:(Nat→Row)→PV→Prop):zCz T s [] post = post s.rw (.tup []):=(rfl)
theorem zrp (a:Nat) (t:TypeId) (post:(Nat→Row)→PV→Prop):zCz T s [.cell a t] post = zsH s.rw (s.sl a) (kk fun m c off=>ldK T t m c off (kk fun p=>post s.rw p)):=(rfl)
theorem zvY (r r2:Nat) (post:(Nat→Row)→PV→Prop):zCz T s [.tmp r,.tmp r2] post = post s.rw (.tup [s.sl r,s.sl r2]):=(rfl)
theorem zai {n:Int} (h:-9223372036854775808 ≤ n) (h2:n ≤ 9223372036854775807):IntKind.i64.wrap n = n:=by
 simp [IntKind.wrap,IntKind.bits,IntKind.signed]
 omega
section
variable {Kp:PV→Prop}
theorem zk3 [zae] (k:Nat) (p:List Nat) {t:TypeId} (o:Nat) (h0:(T t).k.agg = false) (h1:0 < (T t).size):ldK T t .asis (zaI k p) o Kp = (o < p.length∧Kp (.own (sid k (p.getD o 0)) 1)):=by
 have:=zfo (T:=T) (Kp:=Kp) (fun j=>PV.own (sid k j) 1) 0 p (t:=t) (m:=.asis) o (fun j=>.own (sid k j) 1) (fun _=>rfl) h0 h1
 exact this
theorem zKA (k:Nat) (p:List Nat) (i j:Nat):spl (zaI k p) i [.own (sid k j) 1] = zaI k (p.set i j):=by
 show (zaI k p).set i (.own (sid k j) 1) = _
 unfold zaI;rw [List.map_set]
theorem zCP (k:Nat) (p:List Nat) (j:Nat):zaI k p ++ [.own (sid k j) 1] = zaI k (p ++ [j]):=by simp [zaI]
theorem zhp (k v e e2:Nat) (p:List Nat) (rows:List (List PV)):(s.tabbed k v e e2 p rows).sl = s.sl:=(rfl)
theorem zfT [zae] (k v e e2:Nat) (p:List Nat) (rows:List (List PV)):(s.tabbed k v e e2 p rows).rw k = ⟨v,.tab e (zaI k p)⟩:=zhw
theorem zhq [zae] (k v e e2:Nat) (p:List Nat) (rows:List (List PV)) (j:Nat) (h:(j % 1000 == k % 1000) = false):(s.tabbed k v e e2 p rows).rw j = s.rw j:=by
 have h:=beq_eq_false_iff_ne.1 h
 refine zij (fun e=>h (by rw [e])) fun x _ e=>h ?_
 rw [e,zbE];omega
theorem zrq (k v:Nat) (dst:Option Nat):TR.self.next s k v dst K = K (s.put dst (.own k v)):=(rfl)
theorem znP (k v:Nat) (dst:Option Nat) (x:Value):(TR.selfx x).next s k v dst K = K (s.put dst (.tup [.own k v,.v x])):=(rfl)
theorem zz7 (k v d:Nat) (r:RV):(TR.rv r).next s k v (some d) K = (d % 1000 ≠ k % 1000∧K (zao s d r)):=(rfl)
theorem zrr (k v:Nat) (r:RV):(TR.rv r).next s k v none K = K s:=(rfl)
theorem zjU (args:List PV) (e e2:Nat) (rows:List (List PV)) (i:Nat):(St.initT args e e2 rows).sl i = args.getD i .junk:=(rfl)
theorem zjV (args:List PV) (e e2:Nat) (rows:List (List PV)) (i:Nat):(St.initT args e e2 rows).rw i = inT e e2 rows i:=(rfl)
theorem zoM [zae] (e e2:Nat) (rows:List (List PV)) (k:Nat) (h:k < 1000000):inT e e2 rows k = ⟨0,.dead⟩:=zFh h
theorem zev [zae] (e e2:Nat) (rows:List (List PV)):inT e e2 rows 1000000 = ⟨1,.tab e (zaI 1000000 (List.range rows.length))⟩:=zfx
theorem zvZ (rs:List ResultVar) (e e2 n:Nat) (rows:List (List PV)) (res:TR):zKB T rs e e2 n rows res .ret s = zFb T s rs e e2 n rows res:=(rfl)
theorem zrs (rs:List ResultVar) (e e2 n:Nat) (rows:List (List PV)) (res:TR):zKB T rs e e2 n rows res .norm s = zFb T s rs e e2 n rows res:=(rfl)
def zv0 (rw:Nat→Row) (e e2 n:Nat) (rows:List (List PV)):Prop:=∃ q:List Nat,TabIs rw lent 1 e e2 q rows∧q.Perm (List.range n)
theorem zrt (r e e2 n:Nat) (rows:List (List PV)):zFb T s [.tmp r] e e2 n rows .self = (zv0 s.rw e e2 n rows∧s.sl r = .own 1000000 1):=(rfl)
theorem znQ (r r2 e e2 n:Nat) (rows:List (List PV)) (x:Value):zFb T s [.tmp r,.tmp r2] e e2 n rows (.selfx x) = (zv0 s.rw e e2 n rows∧s.sl r = .own 1000000 1∧s.sl r2 = .v x):=(rfl)
theorem zz8 (rs:List ResultVar) (e e2 n:Nat) (rows:List (List PV)) (r:RV):zFb T s rs e e2 n rows (.rv r) = (zv0 s.rw e e2 n rows∧zwY T s rs r):=(rfl)
theorem zfr [zae] (d e e2:Nat) (rows:List (List PV)):(zao s d (.tb e e2 rows)).sl d = .own d ((s.rw d).ver + 1):=by
 unfold zao
 rw [zay]
 rfl
theorem zdy [zae] (d e e2 t:Nat) (rows:List (List PV)) (h:t ≠ d):(zao s d (.tb e e2 rows)).sl t = s.sl t:=by
 unfold zao
 rw [zaO _ _ _ _ h]
theorem zfs [zae] (d e e2 j:Nat) (rows:List (List PV)) (h:(j % 1000 == d % 1000) = false):(zao s d (.tb e e2 rows)).rw j = s.rw j:=by
 have h:=beq_eq_false_iff_ne.1 h
 unfold zao
 rw [zeY]
 show zaw s.rw d (zak (.tb e e2 rows)) 0 j = s.rw j
 rw [zdv]
 refine zcO _ _ _ _ _ fun i _ e=>h ?_
 rw [e];unfold zan;omega
theorem zru [zae] (d e e2:Nat) (rows:List (List PV)) {i:Nat} (h:i < rows.length):(zao s d (.tb e e2 rows)).rw (sid d i) = ⟨(s.rw (sid d i)).ver + 1,.sli e2 1 false (rows.getD i [])⟩:=by
 have hrw:(zao s d (.tb e e2 rows)).rw = zik s.rw d (zbs s.rw d (zak (.tb e e2 rows)) 0) 0:=by
  unfold zao;rw [zeY];exact zdv _ _ _ _
 have hl:(zak (.tb e e2 rows)).length = rows.length + 1:=by rw [zak];simp
 have h1:i + 1 < (zbs s.rw d (zak (.tb e e2 rows)) 0).length:=by rw [zbt,hl];omega
 have h2:i + 1 < (zak (.tb e e2 rows)).length:=by rw [hl];omega
 have:=zd3 s.rw d (zbs s.rw d (zak (.tb e e2 rows)) 0) 0 (i + 1) h1
 rw [Nat.zero_add] at this
 rw [hrw]
 show zik s.rw d _ 0 (zan d (i + 1)) = _
 rw [this,zei _ _ _ _ _ h2,Nat.zero_add]
 have h3:(zak (.tb e e2 rows))[i + 1] = (e2,some 1,rows[i]):=by simp [zak]
 rw [h3]
 simp [zbW,sid,List.getD,h]
theorem zed [zae] (d e e2:Nat) (rows:List (List PV)):(zao s d (.tb e e2 rows)).rw d = ⟨(s.rw d).ver + 1,.tab e (zaT s.rw d 0 rows.length)⟩:=by
 have hrw:(zao s d (.tb e e2 rows)).rw = zik s.rw d (zbs s.rw d (zak (.tb e e2 rows)) 0) 0:=by
  unfold zao;rw [zeY];exact zdv _ _ _ _
 have hl:(zak (.tb e e2 rows)).length = rows.length + 1:=by rw [zak];simp
 have h1:0 < (zbs s.rw d (zak (.tb e e2 rows)) 0).length:=by rw [zbt,hl];omega
 have h2:0 < (zak (.tb e e2 rows)).length:=by rw [hl];omega
 have:=zd3 s.rw d (zbs s.rw d (zak (.tb e e2 rows)) 0) 0 0 h1
 rw [Nat.zero_add] at this
 rw [hrw]
 have hd:zan d 0 = d:=by unfold zan;omega
 have e1:zik s.rw d (zbs s.rw d (zak (.tb e e2 rows)) 0) 0 d = zik s.rw d (zbs s.rw d (zak (.tb e e2 rows)) 0) 0 (zan d 0):=by rw [hd]
 rw [e1,this,zei _ _ _ _ _ h2]
 have h3:(zak (.tb e e2 rows))[0] = (e,none,List.replicate rows.length .junk):=by simp [zak]
 rw [h3]
 simp [zbW,hd]
theorem zk4 [zae] (d j:Nat):zan d (0 + 1 + j) = sid d j:=by rw [zbE];unfold zan;omega
theorem zrv [zae] (d e e2:Nat) (rows:List (List PV)) (h:∀ i,i < rows.length→(s.rw (sid d i)).ver = 0):TabIs (zao s d (.tb e e2 rows)).rw d ((s.rw d).ver + 1) e e2 (List.range rows.length) rows:=by
 refine ⟨?_,by simp,fun i hi=>?_⟩
 ·rw [zed]
  congr 2
  unfold zaT zaI
  refine List.map_congr_left fun j hj=>?_
  rw [zk4,h j (List.mem_range.1 hj)]
 ·have hi':i < rows.length:=by simpa using hi
  have:(List.range rows.length).getD i 0 = i:=by simp [List.getD,hi']
  rw [this,zru d e e2 rows hi',h i hi']
theorem zsT [zae] (d e e2:Nat) (rows:List (List PV)):(zaT s.rw d 0 rows.length).map (zmz (zao s d (.tb e e2 rows)).rw) = rows.map fun r=>.sl false 1 r:=by
 refine List.ext_getElem (by simp [zaT]) fun i a b=>?_
 have hi:i < rows.length:=by simpa using b
 have h2:rows.getD i [] = rows[i]:=by simp [List.getD,hi]
 rw [List.getElem_map,List.getElem_map]
 simp only [zaT,List.getElem_map,List.getElem_range]
 rw [zk4]
 simp only [zmz,zru d e e2 rows hi,if_true,h2]
end
theorem zhr (k:Nat) (p:List Nat):(s.killed k p).sl = s.sl:=(rfl)
theorem zhs [zae] (k:Nat) (p:List Nat) (j:Nat) (h:(j % 1000 == k % 1000) = false):(s.killed k p).rw j = s.rw j:=by
 have h:=beq_eq_false_iff_ne.1 h
 refine zcd fun hj=>h ?_
 rcases hj with rfl | ⟨x,_,rfl⟩
 ·rfl
 ·exact zdg _ _
theorem zk5 [zae] {rw0:Nat→Row} (d e e2:Nat) (rows:List (List PV)) (h:∀ i,s.rw (sid d i) = rw0 (sid d i)):(zaT rw0 d 0 rows.length).map (zmz (zao s d (.tb e e2 rows)).rw) = rows.map fun r=>.sl false 1 r:=by
 have:zaT rw0 d 0 rows.length = zaT s.rw d 0 rows.length:=by
  unfold zaT
  refine List.map_congr_left fun j _=>?_
  rw [zk4,h j]
 rw [this,zsT]
theorem zFa (M:List (List Int)):(M.map iL).map (fun r=>PV.sl false 1 r) = iLL M:=by
 unfold iLL
 rw [List.map_map];rfl
def zmt [zae] {α:Type} (I:α→St→Prop) (μ:α→Nat) (m:Nat) (s2:St):Prop:=∃ x' s3,Wk s2 s3∧I x' s3∧μ x' < m
theorem zac [zae] {α:Type} {I:α→St→Prop} {μ:α→Nat} {m:Nat} (x':α) (h:I x' s) (hm:μ x' < m):zmt I μ m s:=⟨x',s,Wk.refl s,h,hm⟩
theorem zah [zae] {α:Type} (I:α→St→Prop) (μ:α→Nat) (x0:α) {b:(AX→St→Prop)→St→Prop} {u:Dm b} {v:Dm Q} (h0:I x0 s) (h:∀ x s1,I x s1→b (AX.seq (zmt I μ (μ x)) Q) s1):zrA (kk b u) (kk Q v) s :=
 ⟨α,I,μ,⟨x0,s,Wk.refl s,h0⟩,h⟩
end
end Go.Abs
