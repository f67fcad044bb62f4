/- DERIVED by an AI agent. Rules by which simp carries a text out, head first. No program in sight. -/
import Derived.Test.YtpnknaaehcljoaaGreatA10
namespace Go.Abs
set_option linter.unusedSimpArgs false
set_option linter.unusedVariables false
def iL (xs:List Int):List PV:=xs.map fun n=>.v (.int .i64 n)
def kL (k:IntKind) (xs:List Int):List PV:=xs.map fun n=>.v (.int k n)
def sL (xs:List ByteArray):List PV:=xs.map fun n=>.v (.string n)
def bL (xs:List Bool):List PV:=xs.map fun n=>.v (.bool n)
def iLL (xss:List (List Int)):List PV:=xss.map fun r=>.sl false 1 (iL r)
abbrev zbj (xs:List Int):PV:=.sl false 1 (iL xs)
abbrev zIh (xs:List ByteArray):PV:=.sl false 1 (sL xs)
abbrev zGb (xss:List (List Int)):PV:=.sl false 1 (iLL xss)
abbrev int (n:Int):PV:=.v (.int .i64 n)
abbrev u64 (n:Int):PV:=.v (.int .u64 n)
abbrev bool (b:Bool):PV:=.v (.bool b)
abbrev str (s:ByteArray):PV:=.v (.string s)
theorem zjg (xs:List Int):(iL xs).length = xs.length:=by simp [iL]
theorem zn1 (k:IntKind) (xs:List Int):(kL k xs).length = xs.length:=by simp [kL]
theorem zce (xs:List ByteArray):(sL xs).length = xs.length:=by simp [sL]
theorem zn2 (xs:List Bool):(bL xs).length = xs.length:=by simp [bL]
theorem zhj (xs:List (List Int)):(iLL xs).length = xs.length:=by simp [iLL]
theorem zn3 (xs ys:List Int):iL xs ++ iL ys = iL (xs ++ ys):=by simp [iL]
theorem zv8 (xs:List Int) (n:Int):iL xs ++ [.v (.int .i64 n)] = iL (xs ++ [n]):=by simp [iL]
theorem zn4 (k:IntKind) (xs ys:List Int):kL k xs ++ kL k ys = kL k (xs ++ ys):=by simp [kL]
theorem zv9 (k:IntKind) (xs:List Int) (n:Int):kL k xs ++ [.v (.int k n)] = kL k (xs ++ [n]):=by simp [kL]
theorem zmN (xs:List ByteArray) (n:ByteArray):sL xs ++ [.v (.string n)] = sL (xs ++ [n]):=by simp [sL]
theorem zn5 (xs ys:List ByteArray):sL xs ++ sL ys = sL (xs ++ ys):=by simp [sL]
theorem zmO (xs:List (List Int)) (r:List Int):iLL xs ++ [.sl false 1 (iL r)] = iLL (xs ++ [r]):=by simp [iLL]
theorem zlg (xs ys:List (List Int)):iLL xs ++ iLL ys = iLL (xs ++ ys):=by simp [iLL]
theorem zwa (xs:List Int) (n:Nat):(iL xs).take n = iL (xs.take n):=by simp [iL]
theorem zwb (xs:List Int) (n:Nat):(iL xs).drop n = iL (xs.drop n):=by simp [iL]
theorem zwc (xs:List ByteArray) (n:Nat):(sL xs).take n = sL (xs.take n):=by simp [sL]
theorem zwd (xs:List ByteArray) (n:Nat):(sL xs).drop n = sL (xs.drop n):=by simp [sL]
theorem zr7 (xs:List (List Int)) (n:Nat):(iLL xs).take n = iLL (xs.take n):=by simp [iLL]
theorem zr8 (xs:List (List Int)) (n:Nat):(iLL xs).drop n = iLL (xs.drop n):=by simp [iLL]
theorem zBl (xs:List Int) (i:Nat) (n:Int):spl (iL xs) i [.v (.int .i64 n)] = iL (xs.set i n):=by simp [spl,iL]
theorem zBm (a p:PV) (c:List PV):spl (a :: c) 0 [p] = p :: c:=by simp [spl]
theorem zBn (a b p:PV) (c:List PV):spl (a :: b :: c) 1 [p] = a :: p :: c:=by simp [spl]
theorem zBo (a b d p:PV) (c:List PV):spl (a :: b :: d :: c) 2 [p] = a :: b :: p :: c:=by simp [spl]
theorem zBp (a b d e p:PV) (c:List PV):spl (a :: b :: d :: e :: c) 3 [p] = a :: b :: d :: p :: c:=by simp [spl]
theorem zBq (a b p q:PV):spl [a,b] 0 [p,q] = [p,q]:=by simp [spl]
theorem zBr (a b c d p q:PV):spl [a,b,c,d] 0 [p,q] = [p,q,c,d]:=by simp [spl]
theorem zwe (a b c d p q:PV):spl [a,b,c,d] 2 [p,q] = [a,b,p,q]:=by simp [spl]
theorem zBs (a b c d p q r s:PV):spl [a,b,c,d] 0 [p,q,r,s] = [p,q,r,s]:=by simp [spl]
theorem zBt (xs:List Bool) (i:Nat) (n:Bool):spl (bL xs) i [.v (.bool n)] = bL (xs.set i n):=by simp [spl,bL]
theorem zwf (xs:List (List Int)) (i:Nat) (r:List Int):spl (iLL xs) i [.sl false 1 (iL r)] = iLL (xs.set i r):=by simp [spl,iLL]
theorem zeT (n:Nat) (x:Int):List.replicate n (PV.v (.int .i64 x)) = iL (List.replicate n x):=by simp [iL]
theorem zeU (n:Nat) (x:Bool):List.replicate n (PV.v (.bool x)) = bL (List.replicate n x):=by simp [bL]
theorem zwg (xs:List Int):(∀ p ∈ iL xs,isV p = true) = True:=by simp [iL,isV,Value.oneCell']
theorem zE1 (k:IntKind) (xs:List Int):(∀ p ∈ kL k xs,isV p = true) = True:=by simp [kL,isV,Value.oneCell']
theorem zBu (xs:List ByteArray):(∀ p ∈ sL xs,isV p = true) = True:=by simp [sL,isV,Value.oneCell']
theorem zz2 (xs:List (List Int)):(∀ p ∈ iLL xs,zqI p = true) = True:=by simp [iLL,zqI]
theorem zwh (k:IntKind) (n:Int):(Value.int k n).oneCell' = true:=(rfl)
theorem zr9 (b:Bool):(Value.bool b).oneCell' = true:=(rfl)
theorem zlh (b:ByteArray):(Value.string b).oneCell' = true:=(rfl)
theorem zn6 (a:Option Addr) (l c:Nat):(Value.slice a l c).oneCell' = true:=(rfl)
theorem ziF (s:St) (p:PV):s.put none p = s:=(rfl)
theorem zfN (s:St) (d:Option Nat) (p:PV):(s.put d p).rw = s.rw:=by cases d <;> rfl
theorem zsa (s:St) (k:Nat) (r:Row):(s.row k r).sl = s.sl:=(rfl)
theorem zaV (s:St) (k:Nat) (r:Row):(s.row k r).rw k = r:=by simp [St.row]
theorem zaw (s:St) (k j:Nat) (r:Row) (h:j ≠ k):(s.row k r).rw j = s.rw j:=by simp [St.row,h]
theorem zgy (s:St) (ks:List Nat):(s.freeze ks).sl = s.sl:=(rfl)
theorem zgz (s:St) (ks:List Nat) (k:Nat):(s.freeze ks).rw k = if k ∈ ks then frz (s.rw k) else s.rw k:=(rfl)
theorem zmP (ver:Nat) (e sz:Nat) (fz:Bool) (c:List PV):frz ⟨ver,.sli e sz fz c⟩ = ⟨ver,.sli e sz true c⟩:=(rfl)
theorem zsb (s:St) (t:Nat):s.ev (.tmp t) = s.sl t:=(rfl)
theorem zwi (s:St) (f:FuncId):s.ev (.func f) = .clo f []:=(rfl)
theorem zsc (s:St) (k:IntKind) (n:Int):s.ev (.const (.int k n)) = .v (.int k n):=(rfl)
theorem zmQ (s:St) (b:Bool):s.ev (.const (.bool b)) = .v (.bool b):=(rfl)
theorem zgA (s:St) (b:ByteArray):s.ev (.const (.string b)) = .v (.string b):=(rfl)
theorem zsd (s:St) (a:Option Addr) (l c:Nat):s.ev (.const (.slice a l c)) = .v (.slice a l c):=(rfl)
theorem zBv (s:St) (cs:List Value):s.ev (.const (.agg ⟨cs⟩)) = .ag (cs.map PV.v):=(rfl)
theorem zmR (args:List PV) (i:Nat):(St.init args).sl i = args.getD i .junk:=(rfl)
theorem zmS (args:List PV) (i:Nat):(St.init args).rw i = ⟨0,.dead⟩:=(rfl)
theorem zgB {α:Type} (a:α) (l:List α) (d:α):(a :: l).getD 0 d = a:=(rfl)
theorem zgC {α:Type} (a:α) (l:List α) (i:Nat) (d:α):(a :: l).getD (i + 1) d = l.getD i d:=(rfl)
theorem ziG {α:Type} (i:Nat) (d:α):([]:List α).getD i d = d:=(rfl)
theorem ziH (s:St) (d:Nat) (kd:RK) (p:Nat→PV):zcU s d kd p = (s.row d ⟨(s.rw d).ver + 1,kd⟩).put (some d) (p ((s.rw d).ver + 1)):=(rfl)
theorem ziI (s:St) (d k:Nat) (kd:RK):zc8 s d k kd = (s.row k ⟨(s.rw k).ver + 1,kd⟩).put (some d) (.own k ((s.rw k).ver + 1)):=(rfl)
structure Dm {α:Type} (K:α):Type
def kk {α:Type} (K:α) (_:Dm K:=⟨⟩):α:=K
theorem zz3 {α β:Type} (K:α→β) (u:Dm K) (x:α):kk K u x = K x:=(rfl)
def evK (p:PV) (K:PV→Prop):Prop:=K p
theorem zE2 (v:Value) (K:PV→Prop):evK (.v v) K = K (.v v):=(rfl)
theorem zBw (fr:Bool) (z:Nat) (c:List PV) (K:PV→Prop):evK (.sl fr z c) K = K (.sl fr z c):=(rfl)
theorem zwj (j v:Nat) (K:PV→Prop):evK (.own j v) K = K (.own j v):=(rfl)
theorem zwk (j v o:Nat) (K:PV→Prop):evK (.ref j v o) K = K (.ref j v o):=(rfl)
theorem zse (fr:Bool) (c:List PV) (o:Nat) (K:PV→Prop):evK (.eref fr c o) K = K (.eref fr c o):=(rfl)
theorem zBx (c:List PV) (K:PV→Prop):evK (.ag c) K = K (.ag c):=(rfl)
theorem zwl (c:List PV) (K:PV→Prop):evK (.tup c) K = K (.tup c):=(rfl)
theorem zwm (f:FuncId) (c:List PV) (K:PV→Prop):evK (.clo f c) K = K (.clo f c):=(rfl)
theorem zsf (K:PV→Prop):evK .junk K = K .junk:=(rfl)
section
variable {P:Program} {T:Tab} {ops:Array Oper} {Q:AX→St→Prop} {s:St}
def zz4 (p:PV) (A B:Prop):Prop:=match p with | .v (.bool b)=>(b = true→A)∧(b = false→B) | _=>False
def c1 (b:Bool) (A B:Prop):Prop:=(b = true→A)∧(b = false→B)
def c2 (b:Bool) (A B:Prop):Prop:=(b = true→A)∧(b = false→B)
def d1 (b:Bool) (A B:Prop):Prop:=(b = false→A)∧(b = true→B)
def d2 (b:Bool) (A B:Prop):Prop:=(b = false→A)∧(b = true→B)
theorem zE3 (A B:Prop):c1 true (kk A) (kk B) = A:=by simp [c1,kk]
theorem zE4 (A B:Prop):c1 false (kk A) (kk B) = B:=by simp [c1,kk]
theorem zE5 (A B:Prop):c2 true (kk A) (kk B) = A:=by simp [c2,kk]
theorem zE6 (A B:Prop):c2 false (kk A) (kk B) = B:=by simp [c2,kk]
theorem zE7 (A B:Prop):d1 true (kk A) (kk B) = B:=by simp [d1,kk]
theorem zE8 (A B:Prop):d1 false (kk A) (kk B) = A:=by simp [d1,kk]
theorem zE9 (A B:Prop):d2 true (kk A) (kk B) = B:=by simp [d2,kk]
theorem zFa (A B:Prop):d2 false (kk A) (kk B) = A:=by simp [d2,kk]
theorem zBy (b:Bool) (A B:Prop):c1 b A B = c2 b A B:=(rfl)
theorem zBz (b:Bool) (A B:Prop):c2 b (kk A) (kk B) = ((b = true→A)∧(b = false→B)):=(rfl)
theorem zBA (b:Bool) (A B:Prop):d1 b A B = d2 b A B:=(rfl)
theorem zBB (b:Bool) (A B:Prop):d2 b (kk A) (kk B) = ((b = false→A)∧(b = true→B)):=(rfl)
theorem zli (b:Bool) (A B:Prop):zz4 (.v (.bool b)) A B = c1 b A B:=(rfl)
theorem zsg [zah]:cwp P T .skip Q s = Q .norm s:=(rfl)
theorem zhS [zah] (id:Nat):cwp P T (.region id ops false) Q s = zrd P T ops ops.toList s (Q .norm):=(rfl)
theorem zhT [zah] (id:Nat):cwp P T (.region id ops true) Q s = (zj8 ops = true∧ze1 P T ops [] ops.toList s (Q .norm)):=(rfl)
theorem zwn [zah] (x y:Code):cwp P T (.seq x y) Q s = cwp P T x (AX.seq (cwp P T y Q) Q) s:=(rfl)
theorem zsh [zah] (c:Operand) (x y:Code):cwp P T (.cond c x y) Q s = zz4 (s.ev c) (kk (cwp P T x Q s)) (kk (cwp P T y Q s)):=(rfl)
theorem zn7 [zah] (id:Nat) (x:Code):cwp P T (.block id x) Q s = cwp P T x (AX.blk id Q) s:=(rfl)
theorem zsi [zah] (x:Code):cwp P T (.loop x) Q s = zuZ (kk (cwp P T x)) (kk Q) s:=(rfl)
theorem zsj [zah] (id:Nat):cwp P T (.exit id) Q s = Q (.exit id) s:=(rfl)
theorem zwo [zah]:cwp P T .ret Q s = Q .ret s:=(rfl)
theorem zn8 [zah] (l:Nat):cwp P T (.label l) Q s = Q .norm s:=(rfl)
variable {K:St→Prop}
theorem zsk:AX.seq K Q .norm s = K s:=(rfl)
theorem zwp:AX.seq K Q .ret s = Q .ret s:=(rfl)
theorem zsl (id:Nat):AX.seq K Q (.exit id) s = Q (.exit id) s:=(rfl)
theorem zsm (id:Nat):AX.blk id Q .norm s = Q .norm s:=(rfl)
theorem zwq (id:Nat):AX.blk id Q .ret s = Q .ret s:=(rfl)
theorem zgD (id:Nat):AX.blk id Q (.exit id) s = Q .norm s:=by simp [AX.blk]
theorem zjh (id i:Nat) (h:i ≠ id):AX.blk id Q (.exit i) s = Q (.exit i) s:=by simp [AX.blk,h]
theorem zsn (rs:List ResultVar) (rv:RV):zGf T rs rv .ret s = zuU T s rs rv:=(rfl)
theorem zn9 (rs:List ResultVar) (rv:RV):zGf T rs rv .norm s = zuU T s rs rv:=(rfl)
theorem zso [zah]:zrd P T ops [] s K = K s:=(rfl)
theorem zji:∀ (n:Nat) (p:Nat→Bool),(∀ k,k < n→p k = true)→zcP n p = true:=by
 intro n
 induction n with
 | zero=>intro p _;rfl
 | succ n ih=>intro p h;simp only [zcP,Bool.and_eq_true];exact ⟨h n (by omega),ih p fun k hk=>h k (by omega)⟩
def clr (e:Ent):List Ent→Bool | []=>true | e' :: l=>!zmf e' e && clr e l
def zgE:List Ent→Bool | []=>true | e :: l=>clr e l && zgE l
theorem zq1:∀ {l:List Ent},zgE l = true→l.Pairwise fun a b=>zmf b a = false:=by
 intro l
 induction l with
 | nil=>intro _;exact .nil
 | cons e l ih =>
   intro h
   simp only [zgE,Bool.and_eq_true] at h
   refine List.pairwise_cons.2 ⟨?_,ih h.2⟩
   have:∀ l':List Ent,clr e l' = true→∀ b ∈ l',zmf b e = false:=by
    intro l'
    induction l' with
    | nil=>intro _ b hb;cases hb
    | cons x l' ih' =>
      intro h b hb
      simp only [clr,Bool.and_eq_true,Bool.not_eq_true'] at h
      rcases List.mem_cons.1 hb with rfl | hb
      ·exact h.1
      ·exact ih' h.2 b hb
   exact this l h.1
theorem zuO [zah] {l:List Ent} (h:zgE l = true):zk2 ops l.reverse = true:=by
 have hp:l.reverse.Pairwise fun a b=>zmf a b = false:=List.pairwise_reverse.2 (zq1 h)
 unfold zk2
 refine zji _ _ fun j hj=>zji _ _ fun i hi=>?_
 split
 ·rename_i a b ha hb
  obtain ⟨h1,rfl⟩:=List.getElem?_eq_some_iff.1 ha
  obtain ⟨h2,rfl⟩:=List.getElem?_eq_some_iff.1 hb
  have:=List.pairwise_iff_getElem.1 hp i j h1 h2 hi
  rw [this];rfl
 ·rfl
def zwr (ops:Array Oper) (acc:List Ent) (A:Prop):Prop:=zk2 ops acc.reverse = true∧A
def lnK (b:Bool) (ops:Array Oper) (acc:List Ent) (A:Prop):Prop:=match b with | true=>A | false=>zk2 ops acc.reverse = true∧A
theorem zoa [zah] (acc:List Ent) (A:Prop):zwr ops acc (kk A) = lnK (zgE acc) ops acc (kk A):=by
 unfold zwr lnK
 cases h:zgE acc with
 | true=>simp [zuO h,kk]
 | false=>rfl
theorem zFb (acc:List Ent) (A:Prop):lnK true ops acc (kk A) = A:=(rfl)
theorem zFc (acc:List Ent) (A:Prop):lnK false ops acc (kk A) = (zk2 ops acc.reverse = true∧A):=(rfl)
theorem zBC:zgE [] = true:=(rfl)
theorem zws (e:Ent) (l:List Ent):zgE (e :: l) = (clr e l && zgE l):=(rfl)
theorem zwt (e:Ent):clr e [] = true:=(rfl)
theorem zsp (e e':Ent) (l:List Ent):clr e (e' :: l) = (!zmf e' e && clr e l):=(rfl)
def znQ (l:List Nat) (t:Tc):Bool:=l.any t.has
theorem zsq (t:Tc):znQ [] t = false:=(rfl)
theorem zob (k:Nat) (l:List Nat) (t:Tc):znQ (k :: l) t = (t.has k || znQ l t):=(rfl)
theorem zwu (k:Nat):(Tc.ids []).has k = false:=(rfl)
theorem zsr (a:Nat) (l:List Nat) (k:Nat):(Tc.ids (a :: l)).has k = (a % 1000 == k % 1000 || (Tc.ids l).has k):=(rfl)
theorem zwv (d k:Nat):(Tc.res d).has k = (k % 1000 == d % 1000):=(rfl)
theorem zBD (a b:List Nat):zmf ⟨a,.ids []⟩ ⟨b,.ids []⟩ = false:=by
 have e:∀ l:List Nat,l.any (Tc.ids []).has = false:=fun l=>by
  rw [List.any_eq_false];intro x _;simp [Tc.has]
 simp [zmf,e,zfW]
theorem zww (a b t u:List Nat):zmf ⟨a,.ids t⟩ ⟨b,.ids u⟩ = (znQ a (.ids u) || (znQ b (.ids t) || znQ t (.ids u))):=by simp [zmf,znQ,zfW,Bool.or_assoc]
theorem zwx (a b t:List Nat) (d:Nat):zmf ⟨a,.ids t⟩ ⟨b,.res d⟩ = (znQ a (.res d) || (znQ b (.ids t) || znQ t (.res d))):=by simp [zmf,znQ,zfW,Bool.or_assoc]
theorem zwy (a b t:List Nat) (d:Nat):zmf ⟨a,.res d⟩ ⟨b,.ids t⟩ = (znQ a (.ids t) || (znQ b (.res d) || znQ t (.res d))):=by simp [zmf,znQ,zfW,Bool.or_assoc]
theorem zwz (a b:List Nat) (d d':Nat):zmf ⟨a,.res d⟩ ⟨b,.res d'⟩ = (znQ a (.res d') || (znQ b (.res d) || (d % 1000 == d' % 1000))):=by simp [zmf,znQ,zfW,Bool.or_assoc]
theorem zoc [zah] (acc:List Ent):ze1 P T ops acc [] s K = zwr ops acc (kk (K s)):=(rfl)
def gK (d:Option Nat) (want:Bool) (s:St) (A B:Nat→Prop) (N:Prop):Prop :=
 match d with
 | some d=>(match s.sl d with | .v (.bool b)=>(b = want→A d)∧(b = !want→B d) | .v (.tuple _)=>N | _=>False)
 | none=>False
def gK1 (want:Bool) (p:PV) (A B N:Prop):Prop:=match p with | .v (.bool b)=>(b = want→A)∧(b = !want→B) | .v (.tuple _)=>N | _=>False
theorem zwA (d:Nat) (want:Bool) (A B:Nat→Prop) (N:Prop):gK (some d) want s A B N = gK1 want (s.sl d) (kk (A d)) (kk (B d)) N:=(rfl)
theorem zod (want:Bool) (A B N:Prop):gK1 want (.v undef) A B (kk N) = N:=(rfl)
theorem zss (b:Bool) (A B N:Prop):gK1 true (.v (.bool b)) A B N = c1 b A B:=(rfl)
theorem zoe (b:Bool) (A B N:Prop):gK1 false (.v (.bool b)) A B N = d1 b A B:=(rfl)
theorem zof [zah] {dst:Option Nat} {op:Op} {ty:TypeId} {pos:String} {af:Array Edge} {os:List Oper} :
 zrd P T ops (⟨dst,op,ty,pos,af,none⟩ :: os) s K = zeg P T s ⟨dst,op,ty,pos,af,none⟩ (fun s2=>zrd P T ops os s2 K):=(rfl)
theorem zlj [zah] {dst:Option Nat} {op:Op} {ty:TypeId} {pos:String} {af:Array Edge} {j:Nat} {want:Bool} {os:List Oper} :
 zrd P T ops (⟨dst,op,ty,pos,af,some (j,want)⟩ :: os) s K = gK ((ops[j]?).bind (·.dst)) want s
  (kk fun d=>zeg P T (s.put (some d) (.v (.bool want))) ⟨dst,op,ty,pos,af,some (j,want)⟩ (fun s2=>zrd P T ops os s2 K))
  (kk fun d=>zrd P T ops os ((s.put (some d) (.v (.bool !want))).put dst (.v undef)) K) (kk (zrd P T ops os (s.put dst (.v undef)) K)):=(rfl)
theorem zBE (l:List Oper) (j:Nat):((⟨l⟩:Array Oper)[j]?) = l[j]?:=by simp
theorem getElem?_zero {α:Type} (a:α) (l:List α):(a :: l)[0]? = some a:=(rfl)
theorem getElem?_succ {α:Type} (a:α) (l:List α) (i:Nat):(a :: l)[i + 1]? = l[i]?:=(rfl)
theorem zog (o:Oper):(some o).bind (·.dst) = o.dst:=(rfl)
theorem zlk [zah] {dst:Option Nat} {op:Op} {ty:TypeId} {pos:String} {af:Array Edge} {os:List Oper} (acc:List Ent) :
 ze1 P T ops acc (⟨dst,op,ty,pos,af,none⟩ :: os) s K = dK P T s ⟨dst,op,ty,pos,af,none⟩ (kk fun e s2=>ze1 P T ops (e :: acc) os s2 K):=(rfl)
theorem zjj [zah] {dst:Option Nat} {op:Op} {ty:TypeId} {pos:String} {af:Array Edge} {j:Nat} {want:Bool} {os:List Oper} (acc:List Ent) :
 ze1 P T ops acc (⟨dst,op,ty,pos,af,some (j,want)⟩ :: os) s K = gK ((ops[j]?).bind (·.dst)) want s
  (kk fun d=>dK P T (s.put (some d) (.v (.bool want))) ⟨dst,op,ty,pos,af,some (j,want)⟩ (kk fun e s2=>ze1 P T ops (e :: acc) os s2 K))
  (kk fun d=>ze1 P T ops (⟨[],.ids []⟩ :: acc) os ((s.put (some d) (.v (.bool !want))).put dst (.v undef)) K) (kk (ze1 P T ops (⟨[],.ids []⟩ :: acc) os (s.put dst (.v undef)) K)):=(rfl)
def zc3 (l:List PV) (acc:List Nat) (Kn:List Nat→Prop):Prop:=Kn (acc ++ l.flatMap zej)
def znR (l:List PV) (acc:List Nat) (Kn:List Nat→Prop):Prop:=Kn (acc ++ l.flatMap zCj)
section
variable (l:List PV) (acc:List Nat) (Kn:List Nat→Prop)
theorem zst:zc3 [] acc (kk Kn) = Kn acc:=by simp [zc3,kk]
theorem zBF (x:Value):zc3 (.v x :: l) acc (kk Kn) = zc3 l acc (kk Kn):=(rfl)
theorem zwB (fr:Bool) (z:Nat) (c:List PV):zc3 (.sl fr z c :: l) acc (kk Kn) = zc3 l acc (kk Kn):=(rfl)
theorem zoh (fr:Bool) (c:List PV) (o:Nat):zc3 (.eref fr c o :: l) acc (kk Kn) = zc3 l acc (kk Kn):=(rfl)
theorem zsu (f:FuncId) (c:List PV):zc3 (.clo f c :: l) acc (kk Kn) = zc3 l acc (kk Kn):=(rfl)
theorem zsv (c:List PV):zc3 (.tup c :: l) acc (kk Kn) = zc3 l acc (kk Kn):=(rfl)
theorem zoi:zc3 (.junk :: l) acc (kk Kn) = zc3 l acc (kk Kn):=(rfl)
theorem zsw (k v:Nat):zc3 (.own k v :: l) acc (kk Kn) = zc3 l (acc ++ [k % 1000]) (kk Kn):=by simp [zc3,kk,zej,List.flatMap_cons]
theorem zsx (k v o:Nat):zc3 (.ref k v o :: l) acc (kk Kn) = zc3 l (acc ++ [k % 1000]) (kk Kn):=by simp [zc3,kk,zej,List.flatMap_cons]
theorem zwC (c:List PV):zc3 (.ag c :: l) acc (kk Kn) = znR c acc (kk fun acc'=>zc3 l acc' (kk Kn)):=by simp [zc3,znR,kk,zej,List.flatMap_cons]
theorem zsy:znR [] acc (kk Kn) = Kn acc:=by simp [znR,kk]
theorem zBG (x:Value):znR (.v x :: l) acc (kk Kn) = znR l acc (kk Kn):=(rfl)
theorem zwD (fr:Bool) (z:Nat) (c:List PV):znR (.sl fr z c :: l) acc (kk Kn) = znR l acc (kk Kn):=(rfl)
theorem zoj (fr:Bool) (c:List PV) (o:Nat):znR (.eref fr c o :: l) acc (kk Kn) = znR l acc (kk Kn):=(rfl)
theorem zsz (f:FuncId) (c:List PV):znR (.clo f c :: l) acc (kk Kn) = znR l acc (kk Kn):=(rfl)
theorem zsA (k v:Nat):znR (.own k v :: l) acc (kk Kn) = znR l (acc ++ [k % 1000]) (kk Kn):=by simp [znR,kk,zCj,List.flatMap_cons]
theorem zsB (k v o:Nat):znR (.ref k v o :: l) acc (kk Kn) = znR l (acc ++ [k % 1000]) (kk Kn):=by simp [znR,kk,zCj,List.flatMap_cons]
end
def zeK (rw:Nat→Row) (n:Nat) (l:List PV) (acc:List Nat) (Kn:List Nat→Prop):Prop:=Kn (acc ++ l.flatMap (zd7 rw n))
def zjk (r:Row) (rw:Nat→Row) (n:Nat) (acc:List Nat) (Kn:List Nat→Prop):Prop:=Kn (acc ++ (match r.kind with | .box _ c=>c.flatMap (zd7 rw n) | _=>[]))
def zjl (r:Row) (k:Nat) (acc:List Nat) (Kn:List Nat→Prop):Prop:=Kn (acc ++ (match r.kind with | .tab _ c=>zq7 k c | _=>[]))
section
variable (rw:Nat→Row) (n:Nat) (l:List PV) (acc:List Nat) (Kn:List Nat→Prop)
theorem zsC:zeK rw n [] acc (kk Kn) = Kn acc:=by simp [zeK,kk]
theorem zok:zeK rw 0 l acc (kk Kn) = Kn acc:=by
 have:l.flatMap (zd7 rw 0) = []:=by simp [zd7]
 unfold zeK kk
 rw [this,List.append_nil]
theorem zBH (x:Value):zeK rw (n + 1) (.v x :: l) acc (kk Kn) = zeK rw (n + 1) l acc (kk Kn):=by simp [zeK,zd7,List.flatMap_cons]
theorem zwE (fr:Bool) (z:Nat) (c:List PV):zeK rw (n + 1) (.sl fr z c :: l) acc (kk Kn) = zeK rw (n + 1) l acc (kk Kn):=by simp [zeK,zd7,List.flatMap_cons]
theorem zol (fr:Bool) (c:List PV) (o:Nat):zeK rw (n + 1) (.eref fr c o :: l) acc (kk Kn) = zeK rw (n + 1) l acc (kk Kn):=by simp [zeK,zd7,List.flatMap_cons]
theorem zom:zeK rw (n + 1) (.junk :: l) acc (kk Kn) = zeK rw (n + 1) l acc (kk Kn):=by simp [zeK,zd7,List.flatMap_cons]
theorem zsD (k v:Nat):zeK rw (n + 1) (.own k v :: l) acc (kk Kn) = zjl (rw k) k (acc ++ [k % 1000]) (kk fun acc'=>zeK rw (n + 1) l acc' (kk Kn)):=by
 simp only [zeK,zjl,kk,List.flatMap_cons]
 rw [zd7]
 cases (rw k).kind <;> simp
theorem zll (k ver e z:Nat) (fz:Bool) (c:List PV):zjl ⟨ver,.sli e z fz c⟩ k acc (kk Kn) = Kn acc:=by simp [zjl,kk]
theorem zlm (k ver:Nat):zjl ⟨ver,.nil⟩ k acc (kk Kn) = Kn acc:=by simp [zjl,kk]
theorem zln (k ver e:Nat) (c:List PV):zjl ⟨ver,.tab e c⟩ k acc (kk Kn) = Kn (acc ++ zq7 k c):=(rfl)
theorem zjm [zah] (k:Nat) (p:List Nat):zq7 k (zaI k p) = []:=by
 unfold zq7 zaI
 rw [List.flatMap_eq_nil_iff]
 intro q hq
 obtain ⟨j,_,rfl⟩:=List.mem_map.1 hq
 simp [zaa]
theorem zon (rw':Nat→Row) (k m:Nat):zq7 k (zaY rw' k 0 m) = []:=by
 unfold zq7 zaY
 rw [List.flatMap_eq_nil_iff]
 intro q hq
 obtain ⟨j,_,rfl⟩:=List.mem_map.1 hq
 simp [zak]
theorem zwF (c:List PV):zeK rw (n + 1) (.ag c :: l) acc (kk Kn) = zeK rw n c acc (kk fun acc'=>zeK rw (n + 1) l acc' (kk Kn)):=by simp [zeK,zd7,List.flatMap_cons,kk]
theorem zsE (f:FuncId) (c:List PV):zeK rw (n + 1) (.clo f c :: l) acc (kk Kn) = zeK rw n c acc (kk fun acc'=>zeK rw (n + 1) l acc' (kk Kn)):=by simp [zeK,zd7,List.flatMap_cons,kk]
theorem zsF (k v o:Nat):zeK rw (n + 1) (.ref k v o :: l) acc (kk Kn) = zjk (rw k) rw n (acc ++ [k % 1000]) (kk fun acc'=>zeK rw (n + 1) l acc' (kk Kn)):=by
 simp only [zeK,zjk,kk,List.flatMap_cons]
 rw [zd7]
 cases (rw k).kind <;> simp
theorem zlo (ver:Nat) (t:TypeId) (c:List PV):zjk ⟨ver,.box t c⟩ rw n acc (kk Kn) = zeK rw n c acc (kk Kn):=(rfl)
theorem zlp (ver e z:Nat) (fz:Bool) (c:List PV):zjk ⟨ver,.sli e z fz c⟩ rw n acc (kk Kn) = Kn acc:=by simp [zjk,kk]
theorem zlq (ver:Nat):zjk ⟨ver,.nil⟩ rw n acc (kk Kn) = Kn acc:=by simp [zjk,kk]
end
section
variable {dst:Option Nat} {ty:TypeId} {pos:String} {af:Array Edge} {g:Option (Nat × Bool)}
theorem zsG [zah] (x:Operand):opK P T s ⟨dst,.move x,ty,pos,af,g⟩ K = evK (s.ev x) (kk fun p=>K (s.put dst p)):=(rfl)
theorem zfO [zah] (t:Nat):opK P T s ⟨dst,.assign (.tmp t),ty,pos,af,g⟩ K = evK (s.sl t) (kk fun p=>K (s.put dst p)):=(rfl)
theorem zfP [zah] (k:IntKind) (n:Int):opK P T s ⟨dst,.assign (.const (.int k n)),ty,pos,af,g⟩ K = K (s.put dst (.v (.int k n))):=(rfl)
theorem zeV [zah] (b:Bool):opK P T s ⟨dst,.assign (.const (.bool b)),ty,pos,af,g⟩ K = K (s.put dst (.v (.bool b))):=(rfl)
theorem zd3 [zah] (b:ByteArray):opK P T s ⟨dst,.assign (.const (.string b)),ty,pos,af,g⟩ K = K (s.put dst (.v (.string b))):=(rfl)
theorem zfQ [zah] (cs:List Value):opK P T s ⟨dst,.assign (.const (.agg ⟨cs⟩)),ty,pos,af,g⟩ K = K (s.put dst (.ag (cs.map PV.v))):=(rfl)
def nilRow (T:Tab) (k:TK):RK:=match k with | .sli e=>.sli e (T e).size false [] | _=>.nil
theorem zlr (e:TypeId):nilRow T (.sli e) = .sli e (T e).size false []:=(rfl)
theorem zfR [zah] (d:Nat):opK P T s ⟨some d,.assign (.const (.slice none 0 0)),ty,pos,af,g⟩ K = K (zcU s d (nilRow T (T ty).k) fun v=>.own d v):=(rfl)
theorem zsH [zah] (c x y:Operand):opK P T s ⟨dst,.pick c x y,ty,pos,af,g⟩ K = zz4 (s.ev c) (kk (evK (s.ev x) (kk fun p=>K (s.put dst p)))) (kk (evK (s.ev y) (kk fun p=>K (s.put dst p)))):=(rfl)
theorem zwG [zah] (op:BinOp) (t t2:TypeId) (x y:Operand):opK P T s ⟨dst,.binOp op t x y t2,ty,pos,af,g⟩ K = zcY T op t (s.ev x) (s.ev y) (kk fun p=>K (s.put dst p)):=(rfl)
theorem zBI [zah] (op:UnOp) (t:TypeId) (x:Operand):opK P T s ⟨dst,.unOp op t x,ty,pos,af,g⟩ K = unK op (s.ev x) (kk fun p=>K (s.put dst p)):=(rfl)
theorem zjn [zah] (a b:TypeId) (x:Operand):opK P T s ⟨dst,.convert a b x,ty,pos,af,g⟩ K = zfL T s.rw a b (s.ev x) (kk fun p=>K (s.put dst p)):=(rfl)
theorem zsI [zah] (t:TypeId) (x:Operand):opK P T s ⟨dst,.load t x,ty,pos,af,g⟩ K = zqJ s.rw (s.ev x) (kk fun m c off=>ldK T t m c off (kk fun p=>K (s.put dst p))):=(rfl)
theorem zgF [zah] (t:TypeId) (x:Operand) (f:Nat):opK P T s ⟨dst,.fieldAddr t x f,ty,pos,af,g⟩ K =
 zdK T t f (kk fun o _=>zkn (s.ev x) = true∧zdq s.rw (s.ev x) (kk (evK (zd9 (s.ev x) o) (kk fun p=>K (s.put dst p))))):=(rfl)
def agK (p:PV) (K:List PV→Prop):Prop:=match p with | .ag c=>K c | _=>False
theorem zBJ (c:List PV) (Kc:List PV→Prop):agK (.ag c) Kc = Kc c:=(rfl)
def zGq (p:PV) (K:List PV→Prop):Prop:=match p with | .tup c=>K c | _=>False
theorem zsJ (c:List PV) (Kc:List PV→Prop):zGq (.tup c) Kc = Kc c:=(rfl)
theorem zjo [zah] (t:TypeId) (x:Operand) (f:Nat):opK P T s ⟨dst,.field t x f,ty,pos,af,g⟩ K =
 agK (s.ev x) (kk fun c=>zdK T t f (kk fun o ft=>ldK T ft .asis c o (kk fun p=>K (s.put dst p)))):=by
 show zdK T t f (fun o ft=>(match s.ev x with | .ag c=>ldK T ft .asis c o fun p=>K (s.put dst p) | _=>False)) = _
 unfold zdK agK kk
 cases s.ev x
 case ag c=>rfl
 all_goals
  refine propext ⟨fun h=>?_,fun h=>h.elim⟩
  obtain ⟨_,h⟩:=h
  split at h
  ·split at h
   ·exact h.2.elim
   ·exact h.elim
  ·exact h.elim
theorem zgG [zah] (t:TypeId) (x i:Operand):opK P T s ⟨dst,.indexAddr t x i,ty,pos,af,g⟩ K = zby T s.rw t (s.ev x) (s.ev i) (kk fun p=>K (s.put dst p)):=(rfl)
def zsK (T:Tab) (t:TypeId) (x i:PV) (K:PV→Prop):Prop:=0 < (T t).size∧(match (T t).k,x,i with
 | .str,.v (.string s),.v (.int _ n)=>0 ≤ n∧n.toNat < s.size∧K (.v (.int .u8 ((s.data.toList.getD n.toNat 0).toNat:Int)))
 | .arr len e,.ag c,.v (.int _ n)=>0 ≤ n∧n < len∧ldK T e .asis c (n.toNat * (T e).size) K
 | _,_,_=>False)
theorem zoo [zah] (t:TypeId) (x i:Operand):opK P T s ⟨dst,.index t x i,ty,pos,af,g⟩ K = zsK T t (s.ev x) (s.ev i) (kk fun p=>K (s.put dst p)):=(rfl)
theorem zjp [zah] (x:Operand) (i:Nat):opK P T s ⟨dst,.extract x i,ty,pos,af,g⟩ K = zGq (s.ev x) (kk fun ps=>i < ps.length∧evK (ps.getD i .junk) (kk fun p=>K (s.put dst p))):=(rfl)
theorem zhU [zah] (x:Operand):opK P T s ⟨dst,.nilCheck x,ty,pos,af,g⟩ K = zdq s.rw (s.ev x) (kk (evK (s.ev x) (kk fun p=>K (s.put dst p)))):=(rfl)
theorem zhV [zah] (f:FuncId) (caps:Array Operand):opK P T s ⟨dst,.makeFunc (.func f) #[] caps,ty,pos,af,g⟩ K = K (s.put dst (.clo f (caps.toList.map s.ev))):=by
 show (#[] = (#[]:Array Operand)∧K (s.put dst (.clo f (caps.toList.map s.ev)))) = _
 simp
theorem zwH [zah] (x:Operand) (t:TypeId):opK P T s ⟨dst,.call ⟨.builtin .len,#[x],#[t]⟩,ty,pos,af,g⟩ K = zyu T s.rw t (s.ev x) (kk fun p=>K (s.put dst p)):=(rfl)
theorem zwI [zah] (x y:Operand) (ts:Array TypeId):opK P T s ⟨dst,.call ⟨.builtin .max,#[x,y],ts⟩,ty,pos,af,g⟩ K = zcI true (s.ev x) (s.ev y) (kk fun p=>K (s.put dst p)):=(rfl)
theorem zwJ [zah] (x y:Operand) (ts:Array TypeId):opK P T s ⟨dst,.call ⟨.builtin .min,#[x,y],ts⟩,ty,pos,af,g⟩ K = zcI false (s.ev x) (s.ev y) (kk fun p=>K (s.put dst p)):=(rfl)
theorem zls [zah] (d:Nat) (x y:Operand) (t t2:TypeId):opK P T s ⟨some d,.call ⟨.builtin .append,#[x,y],#[t,t2]⟩,ty,pos,af,g⟩ K = zkg T s d t t2 (s.ev x) (s.ev y) (kk K):=(rfl)
def zzK (p:PV) (K:FuncId→List PV→Prop):Prop:=match p with | .clo g caps=>K g caps | _=>False
theorem zsL (g:FuncId) (c:List PV) (Kc:FuncId→List PV→Prop):zzK (.clo g c) Kc = Kc g c:=(rfl)
def zjq [zah] (P:Program) (f:FuncId) (args:List PV) (K:RV→Prop) (M:Prop):Prop:=(∃ rv,AC P f args rv∧K rv) ∨ M
theorem zaf [zah] {f:FuncId} {args:List PV} {Kr:RV→Prop} {u:Dm Kr} {rv:RV} {M:Prop} (h:AC P f args rv) (hk:Kr rv):zjq P f args (kk Kr u) M:=.inl ⟨rv,h,hk⟩
def zsM [zah] (P:Program) (f:FuncId) (args raw:List PV) (dst:Option Nat) (s:St) (K:St→Prop):Prop:=zHW P s f raw dst K ∨ zGj P s f raw dst K ∨ zC2 P s f args dst K ∨ askG P s f raw dst K
theorem zCL [zah] {f:FuncId} {args raw lent:List PV} {k v e e2:Nat} {p:List Nat} {rows rows':List (List PV)} {res:TR} {Ka:RV→Prop} {dst:Option Nat} {us:Dm s} {u:Dm K} (h:AT P f args e e2 rows rows' res)
 (hg:GiveL [(k,v)] raw args) (ht:TabIs s.rw k v e e2 p rows) (hn:p.Nodup)
 (hk:∀ p':List Nat,p'.Perm p→res.next (s.tabbed k v e e2 p' rows') k v dst K):zjq P f lent Ka (zsM P f lent raw dst (kk s us) (kk K u)) :=
 .inr (.inr (.inl ⟨k,v,e,e2,p,rows,rows',args,res,h,hg,ht,hn,hk⟩))
theorem zz5 [zah] {f:FuncId} {args raw:List PV} {Ka:RV→Prop} {d:Nat} {us:Dm s} {u:Dm K} {rv:RV} (s':St) (h:AC P f args rv) (hw:Wk (zal s d rv) s') (hk:K s'):zjq P f args Ka (zsM P f args raw (some d) (kk s us) (kk K u)) :=
 .inr (.inr (.inr (.inl ⟨rv,s',h,hw,hk⟩)))
theorem zCM [zah] {f:FuncId} {args raw lent:List PV} {R0:Nat→Row} {post:(Nat→Row)→PV→Prop} {Ka:RV→Prop} {dst:Option Nat} {us:Dm s} {u:Dm K} (h:AG P f args R0 post) (rho:Nat→Option Nat) (Ln:Nat→Prop) (hl:GvL rho Ln R0 s.rw args raw) (hg:Give rho Ln R0 s.rw)
 (hk:∀ R1 p,post R1 p→∃ (rho1:Nat→Option Nat) (nv:Nat→Nat) (nl:Bool),Back rho rho1 R1 nv nl Ln R0 s.rw∧∀ S:St,After s S dst rho1 nv nl R1 p→K S):zjq P f lent Ka (zsM P f lent raw dst (kk s us) (kk K u)) :=
 .inr (.inr (.inr (.inr ⟨args,R0,post,rho,Ln,h,hl,hg,hk⟩)))
def zhk (s:St) (l:List Operand):List PV:=l.map fun x=>zcx s.rw zfK (s.ev x)
theorem zop:zhk s [] = []:=(rfl)
theorem zlt (x:Operand) (l:List Operand):zhk s (x :: l) = zcx s.rw 3 (s.ev x) :: zhk s l:=(rfl)
def zwK (s:St) (l:List Operand):List PV:=l.map s.ev
theorem zsN:zwK s [] = []:=(rfl)
theorem zoq (x:Operand) (l:List Operand):zwK s (x :: l) = s.ev x :: zwK s l:=(rfl)
theorem zz6 [zah] (f:Operand) (args:List Operand) (Kr:RV→Prop):zeo P s.rw s.ev f ⟨args⟩ Kr = zzK (s.ev f) (kk fun g caps=>zjq P g (zhk s args ++ caps.map (zcx s.rw 3)) (kk Kr) False):=by
 unfold zeo zzK zjq
 cases s.ev f <;> first | rfl | simp [kk,zhk,zfK]
theorem zsO [zah] (f:Operand) (args:List Operand) (Kr:RV→Prop) (dst:Option Nat):((zeo P s.rw s.ev f ⟨args⟩ Kr ∨ zyd P s f ⟨args⟩ dst K) ∨ (match s.ev f with
 | .clo g caps=>zGj P s g (args.map s.ev ++ caps) dst K ∨ zC2 P s g ((args.map fun x=>zcx s.rw zfK (s.ev x)) ++ caps.map (zcx s.rw zfK)) dst K ∨ askG P s g (args.map s.ev ++ caps) dst K
 | _=>False)) =
 zzK (s.ev f) (kk fun g caps=>zjq P g (zhk s args ++ caps.map (zcx s.rw 3)) (kk Kr) (zsM P g (zhk s args ++ caps.map (zcx s.rw 3)) (zwK s args ++ caps) dst (kk s) (kk K))):=by
 unfold zeo zyd zzK
 cases s.ev f <;> first | (simp;done) | skip
 unfold kk zjq zsM
 exact propext or_assoc
theorem zor [zah] (d:Nat) (f:Operand) (args:List Operand) (ts:Array TypeId):zeg P T s ⟨some d,.call ⟨.value f,⟨args⟩,ts⟩,ty,pos,af,g⟩ K =
 zzK (s.ev f) (kk fun g caps=>zjq P g (zhk s args ++ caps.map (zcx s.rw 3)) (kk fun rv=>K (zal s d rv)) (zsM P g (zhk s args ++ caps.map (zcx s.rw 3)) (zwK s args ++ caps) (some d) (kk s) (kk K))):=zsO (P:=P) f args _ _
theorem zfS [zah] (f:Operand) (args:List Operand) (ts:Array TypeId):zeg P T s ⟨none,.call ⟨.value f,⟨args⟩,ts⟩,ty,pos,af,g⟩ K =
 zzK (s.ev f) (kk fun g caps=>zjq P g (zhk s args ++ caps.map (zcx s.rw 3)) (kk fun _=>K s) (zsM P g (zhk s args ++ caps.map (zcx s.rw 3)) (zwK s args ++ caps) none (kk s) (kk K))):=zsO (P:=P) f args _ _
theorem zos [zah] (b:Builtin) (args:Array Operand) (ts:Array TypeId) (h:(match b with | .append=>false | _=>true) = true):zeg P T s ⟨dst,.call ⟨.builtin b,args,ts⟩,ty,pos,af,g⟩ K = opK P T s ⟨dst,.call ⟨.builtin b,args,ts⟩,ty,pos,af,g⟩ K:=by
 cases b <;> first | rfl | cases h
theorem zot [zah] (d:Nat) (t:TypeId):opK P T s ⟨some d,.alloc t,ty,pos,af,g⟩ K = (0 < (T t).size∧K (zcU s d (.box t ((T t).zero.map PV.v)) fun v=>.ref d v 0)):=(rfl)
theorem zwL [zah] (d:Nat) (t:TypeId) (x:Operand):opK P T s ⟨some d,.box t x,ty,pos,af,g⟩ K = za6 s.rw (s.ev x) (kk fun c=>K (zcU s d (.box t c) fun v=>.ref d v 0)):=(rfl)
def evs (s:St) (l:List (Nat × Operand)):List PV:=l.map fun x=>s.ev x.2
theorem zwM:evs s [] = []:=(rfl)
theorem zsP (n:Nat) (x:Operand) (l:List (Nat × Operand)):evs s ((n,x) :: l) = s.ev x :: evs s l:=(rfl)
def zwN (T:Tab) (s:St) (d:Nat) (kd:TK) (z n:Nat) (parts:List (Nat × Operand)) (K:St→Prop):Prop :=
 0 < z∧match kd with
 | .sli e=>0 < (T e).size∧n = parts.length∧znb 0 parts = true∧n * (T e).size ≤ 16777216 ∧
  zk4 s.rw (T e).size (evs s parts) fun c f=>d ∉ f∧K (((s.freeze f).row d ⟨(s.rw d).ver + 1,.sli e (T e).size false c⟩).put (some d) (.own d ((s.rw d).ver + 1)))
 | _=>False
theorem zfT [zah] (d:Nat) (t:TypeId) (n:Nat) (parts:List (Nat × Operand)):opK P T s ⟨some d,.buildSlice t n ⟨parts⟩,ty,pos,af,g⟩ K = zwN T s d (T t).k (T t).size n parts (kk K):=(rfl)
def lit (c:List PV):List PV:=c
def zFd (a:List Int) (c:List PV):List PV:=iL a ++ c
def zFe (a:List ByteArray) (c:List PV):List PV:=sL a ++ c
def zFf (a:List Bool) (c:List PV):List PV:=bL a ++ c
def zFg (a:List (List Int)) (c:List PV):List PV:=iLL a ++ c
theorem zmT:lit [] = []:=(rfl)
theorem zmU (n:Int) (l:List PV):lit (.v (.int .i64 n) :: l) = zFd [n] l:=(rfl)
theorem zmV (n:ByteArray) (l:List PV):lit (.v (.string n) :: l) = zFe [n] l:=(rfl)
theorem ziJ (n:Bool) (l:List PV):lit (.v (.bool n) :: l) = zFf [n] l:=(rfl)
theorem zsQ (n:List Int) (l:List PV):lit (.sl false 1 (iL n) :: l) = zFg [n] l:=(rfl)
theorem ziK (a:List Int):zFd a [] = iL a:=List.append_nil _
theorem ziL (a:List ByteArray):zFe a [] = sL a:=List.append_nil _
theorem ziM (a:List Bool):zFf a [] = bL a:=List.append_nil _
theorem ziN (a:List (List Int)):zFg a [] = iLL a:=List.append_nil _
theorem zgH (a:List Int) (n:Int) (l:List PV):zFd a (.v (.int .i64 n) :: l) = zFd (a ++ [n]) l:=by simp [zFd,iL]
theorem zgI (a:List ByteArray) (n:ByteArray) (l:List PV):zFe a (.v (.string n) :: l) = zFe (a ++ [n]) l:=by simp [zFe,sL]
theorem zgJ (a:List Bool) (n:Bool) (l:List PV):zFf a (.v (.bool n) :: l) = zFf (a ++ [n]) l:=by simp [zFf,bL]
theorem zgK (a:List (List Int)) (n:List Int) (l:List PV):zFg a (.sl false 1 (iL n) :: l) = zFg (a ++ [n]) l:=by simp [zFg,iLL]
theorem zlu (d e n:Nat) (parts:List (Nat × Operand)) (h2:(T e).size = 1) :
 zwN T s d (.sli e) 1 n parts K = (n = parts.length∧znb 0 parts = true∧n ≤ 16777216∧zk4 s.rw 1 (evs s parts) (kk fun c f=>d ∉ f∧K (((s.freeze f).row d ⟨(s.rw d).ver + 1,.sli e 1 false (lit c)⟩).put (some d) (.own d ((s.rw d).ver + 1))))):=by
 unfold zwN kk
 simp only [h2,Nat.one_pos,true_and,Nat.mul_one]
 rfl
theorem zou (i:Nat):znb i [] = true:=(rfl)
theorem zlv (i j:Nat) (x:Operand) (l:List (Nat × Operand)):znb i ((j,x) :: l) = (j == i && znb (i + 1) l):=(rfl)
theorem zov (rw:Nat→Row) (es:Nat) (Kp:List PV→List Nat→Prop):zk4 rw es [] (kk Kp) = Kp [] []:=(rfl)
theorem zlw (rw:Nat→Row) (es:Nat) (p:PV) (ps:List PV) (Kp:List PV→List Nat→Prop):zk4 rw es (p :: ps) (kk Kp) = zcT rw p (kk fun c f=>c.length = es∧zk4 rw es ps (kk fun cs fs=>Kp (c ++ cs) (f ++ fs))):=(rfl)
theorem zow [zah] (t:TypeId) (ad x:Operand):opK P T s ⟨none,.store t ad x,ty,pos,af,g⟩ K = zp3 T s t (s.ev ad) (s.ev x) (kk K):=by
 show ((none:Option Nat) = none∧zp3 T s t (s.ev ad) (s.ev x) K) = _
 simp [kk]
def zCN (T:Tab) (t:TypeId) (l c:PV) (K:TypeId→List PV→Prop):Prop :=
 match (T t).k,l,c with
 | .sli e,.v (.int _ nl),.v (.int _ nc)=>0 < (T t).size∧(T e).size = 1∧(match (T e).zero with
  | [z]=>0 ≤ nl∧nl ≤ nc∧((T e).bytes:Int) * nc ≤ 281474976710656∧nc ≤ 9223372036854775807∧K e (List.replicate nl.toNat (.v z))
  | _=>False)
 | _,_,_=>False
theorem zsR [zah] (d:Nat) (t:TypeId) (l c:Operand):opK P T s ⟨some d,.makeSlice t l c,ty,pos,af,g⟩ K = zCN T t (s.ev l) (s.ev c) (kk fun e cs=>K (zcU s d (.sli e 1 false cs) fun v=>.own d v)):=by
 unfold zCN kk
 simp only [opK]
 generalize (T t).k = a
 generalize s.ev l = b
 generalize s.ev c = e
 cases a <;> first | rfl | skip
 cases b <;> first | rfl | skip
 rename_i v
 cases v <;> first | rfl | skip
 cases e <;> first | rfl | skip
 rename_i v
 cases v <;> rfl
def zCO (T:Tab) (kd:TK) (z:Nat) (l c:PV) (K:TypeId→List PV→Prop):Prop :=
 match kd,l,c with
 | .sli e,.v (.int _ nl),.v (.int _ nc)=>0 < z∧(T e).size = 1∧(match (T e).zero with
  | [z]=>0 ≤ nl∧nl ≤ nc∧((T e).bytes:Int) * nc ≤ 281474976710656∧nc ≤ 9223372036854775807∧K e (List.replicate nl.toNat (.v z))
  | _=>False)
 | _,_,_=>False
theorem zwO (t:TypeId) (l c:PV) (Kc:TypeId→List PV→Prop):zCN T t l c Kc = zCO T (T t).k (T t).size l c Kc:=(rfl)
def zCP (zs:List Value) (K:Value→Prop):Prop:=match zs with | [z]=>K z | _=>False
theorem zox (z:Value) (Kz:Value→Prop):zCP [z] Kz = Kz z:=(rfl)
theorem zoy {e:TypeId} {k1 k2:IntKind} {nl nc:Int} {Kc:TypeId→List PV→Prop} (h2:(T e).size = 1) :
 zCO T (.sli e) 1 (.v (.int k1 nl)) (.v (.int k2 nc)) Kc = zCP (T e).zero (kk fun z=>0 ≤ nl∧nl ≤ nc∧((T e).bytes:Int) * nc ≤ 281474976710656∧nc ≤ 9223372036854775807∧Kc e (List.replicate nl.toNat (.v z))):=by
 unfold zCO zCP kk
 simp only [h2,Nat.one_pos,true_and]
def zD5 (T:Tab) (s:St) (t:TypeId) (x:PV) (lo hi mx:Option Operand) (K:List Nat→PV→Prop):Prop :=
 match x with
 | .own k ver=>(match (s.rw k).kind with
  | .sli _ _ false _=>zbG T (s.freeze [k]).rw s.ev t (.own k ver) lo hi mx (K [k])
  | _=>zbG T s.rw s.ev t (.own k ver) lo hi mx (K []))
 | x=>zbG T s.rw s.ev t x lo hi mx (K [])
theorem zoz [zah] (t:TypeId) (x:Operand) (lo hi mx:Option Operand):opK P T s ⟨dst,.slice t x lo hi mx,ty,pos,af,g⟩ K = zD5 T s t (s.ev x) lo hi mx (kk fun fz p=>K ((s.freeze fz).put dst p)):=by
 have e:s.freeze [] = s:=St.freeze_nil s
 have h:∀ q,s.ev x = q→(match q with
  | .own k _=>(match (s.rw k).kind with
   | .sli _ _ false _=>zis T (s.freeze [k]).rw s.ev (.slice t x lo hi mx) fun p=>K ((s.freeze [k]).put dst p)
   | _=>zis T s.rw s.ev (.slice t x lo hi mx) fun p=>K (s.put dst p))
  | _=>zis T s.rw s.ev (.slice t x lo hi mx) fun p=>K (s.put dst p)) = zD5 T s t q lo hi mx fun fz p=>K ((s.freeze fz).put dst p):=by
  intro q hq
  unfold zD5
  cases q <;> simp only [zis,hq,e]
 exact h _ rfl
end
def zD6 (s:St) (l:List (Nat × Operand)):List (Nat × PV):=l.map fun x=>(x.1,s.ev x.2)
theorem zsS:zD6 s [] = []:=(rfl)
theorem zoA (n:Nat) (x:Operand) (l:List (Nat × Operand)):zD6 s ((n,x) :: l) = (n,s.ev x) :: zD6 s l:=(rfl)
def zgL (T:Tab):List (Nat × TypeId)→Prop | []=>True | x :: fs=>0 < (T x.2).size∧zgL T fs
theorem zlx:zgL T [] = True:=(rfl)
theorem zjr (o:Nat) (t:TypeId) (fs:List (Nat × TypeId)):zgL T ((o,t) :: fs) = (0 < (T t).size∧zgL T fs):=(rfl)
theorem zwP:∀ fs:List (Nat × TypeId),(∀ x ∈ fs,0 < (T x.2).size) = zgL T fs:=by
 intro fs
 induction fs with
 | nil=>simp [zgL]
 | cons x fs ih=>rw [zgL,← ih];simp
def zFh (T:Tab) (rw:Nat→Row) (kd:TK) (z:Nat) (zs:List Value) (pp:List (Nat × PV)) (K:PV→Prop):Prop :=
 0 < z∧match kd with
 | .struct fs=>zgL T fs∧zc7 T rw fs pp (zs.map PV.v) fun c=>K (.ag c)
 | _=>False
theorem zBK [zah] (t:TypeId) (parts:List (Nat × Operand)) (Kp:PV→Prop):zgd T s.rw s.ev t ⟨parts⟩ Kp = zFh T s.rw (T t).k (T t).size (T t).zero (zD6 s parts) (kk Kp):=by
 unfold zgd zFh kk
 cases (T t).k <;> first | rfl | skip
 simp only [zwP]
 rfl
theorem zjs (rw:Nat→Row) (fs:List (Nat × TypeId)) (z:Nat) (zs:List Value) (pp:List (Nat × PV)) (Kp:PV→Prop) :
 zFh T rw (.struct fs) z zs pp (kk Kp) = (0 < z∧zgL T fs∧zc7 T rw fs pp (zs.map PV.v) (kk fun c=>Kp (.ag c))):=(rfl)
theorem zoB (rw:Nat→Row) (fs:List (Nat × TypeId)) (c:List PV) (Kc:List PV→Prop):zc7 T rw fs [] c (kk Kc) = Kc c:=(rfl)
def zGr (T:Tab) (rw:Nat→Row) (fs:List (Nat × TypeId)) (x:Option (Nat × TypeId)) (p:PV) (rest:List (Nat × PV)) (cells:List PV) (Kc:List PV→Prop):Prop :=
 match x with
 | some (off,ft)=>za6 rw p fun c=>c.length = (T ft).size∧off + c.length ≤ cells.length∧zc7 T rw fs rest (spl cells off c) Kc
 | none=>False
theorem zly (rw:Nat→Row) (fs:List (Nat × TypeId)) (i:Nat) (p:PV) (rest:List (Nat × PV)) (c:List PV) (Kc:List PV→Prop):zc7 T rw fs ((i,p) :: rest) c (kk Kc) = zGr T rw fs fs[i]? p rest c (kk Kc):=by
 unfold zGr kk
 rw [zc7]
 cases fs[i]? <;> rfl
theorem zoC (rw:Nat→Row) (fs:List (Nat × TypeId)) (off:Nat) (ft:TypeId) (p:PV) (rest:List (Nat × PV)) (cells:List PV) (Kc:List PV→Prop) :
 zGr T rw fs (some (off,ft)) p rest cells (kk Kc) = za6 rw p (kk fun c=>c.length = (T ft).size∧off + c.length ≤ cells.length∧zc7 T rw fs rest (spl cells off c) (kk Kc)):=(rfl)
section
variable {dst:Option Nat} {ty:TypeId} {pos:String} {af:Array Edge} {g:Option (Nat × Bool)}
theorem zoD [zah] (t:TypeId) (parts:List (Nat × Operand)):opK P T s ⟨dst,.build t ⟨parts⟩,ty,pos,af,g⟩ K = zFh T s.rw (T t).k (T t).size (T t).zero (zD6 s parts) (kk fun p=>K (s.put dst p)):=by
 rw [← zBK];rfl
def ncD (rw:Nat→Row) (kd:TK) (z:Nat) (x:PV) (Kb:Bool→Prop):Prop:=0 < z∧match kd with | .sli _=>slK rw x fun _ _ c=>Kb false∧(c = []→Kb true) | _=>False
theorem zjt [zah] (t t2:TypeId) (x:Operand):zeg P T s ⟨dst,.binOp .eql t x (.const (.slice none 0 0)) t2,ty,pos,af,g⟩ K = ncD s.rw (T t).k (T t).size (s.ev x) (kk fun b=>K (s.put dst (.v (.bool b)))):=(rfl)
theorem zju [zah] (t t2:TypeId) (x:Operand):zeg P T s ⟨dst,.binOp .neq t x (.const (.slice none 0 0)) t2,ty,pos,af,g⟩ K = ncD s.rw (T t).k (T t).size (s.ev x) (kk fun b=>K (s.put dst (.v (.bool !b)))):=(rfl)
theorem zBL (rw:Nat→Row) (e z z':Nat) (fr:Bool) (c:List PV) (Kb:Bool→Prop):ncD rw (.sli e) z (.sl fr z' c) (kk Kb) = (0 < z∧Kb false∧(c = []→Kb true)):=(rfl)
def zuP (r:Row) (ver:Nat) (Kb:Bool→Prop):Prop:=r.ver = ver∧match r.kind with | .nil=>Kb false∧Kb true | .sli _ _ _ c=>Kb false∧(c = []→Kb true) | _=>False
theorem zwQ (rw:Nat→Row) (e z j v:Nat) (Kb:Bool→Prop):ncD rw (.sli e) z (.own j v) (kk Kb) = (0 < z∧zuP (rw j) v (kk Kb)):=by
 unfold ncD zuP kk slK
 dsimp only
 cases (rw j).kind <;> simp
theorem zoE (ver e sz:Nat) (fz:Bool) (c:List PV) (Kb:Bool→Prop):zuP ⟨ver,.sli e sz fz c⟩ ver (kk Kb) = (Kb false∧(c = []→Kb true)):=by simp [zuP,kk]
theorem zoF (ver:Nat) (Kb:Bool→Prop):zuP ⟨ver,.nil⟩ ver (kk Kb) = (Kb false∧Kb true):=by simp [zuP,kk]
theorem zsT [zah] (x:Operand):zeg P T s ⟨dst,.move x,ty,pos,af,g⟩ K = opK P T s ⟨dst,.move x,ty,pos,af,g⟩ K:=(rfl)
theorem zlz [zah] (x:Operand):zeg P T s ⟨dst,.assign x,ty,pos,af,g⟩ K = opK P T s ⟨dst,.assign x,ty,pos,af,g⟩ K:=(rfl)
theorem zsU [zah] (c x y:Operand):zeg P T s ⟨dst,.pick c x y,ty,pos,af,g⟩ K = opK P T s ⟨dst,.pick c x y,ty,pos,af,g⟩ K:=(rfl)
theorem zBM [zah] (op:UnOp) (t:TypeId) (x:Operand):zeg P T s ⟨dst,.unOp op t x,ty,pos,af,g⟩ K = opK P T s ⟨dst,.unOp op t x,ty,pos,af,g⟩ K:=(rfl)
theorem zjv [zah] (a b:TypeId) (x:Operand):zeg P T s ⟨dst,.convert a b x,ty,pos,af,g⟩ K = opK P T s ⟨dst,.convert a b x,ty,pos,af,g⟩ K:=(rfl)
theorem zsV [zah] (t:TypeId) (x:Operand):zeg P T s ⟨dst,.load t x,ty,pos,af,g⟩ K = opK P T s ⟨dst,.load t x,ty,pos,af,g⟩ K:=(rfl)
theorem zgM [zah] (t:TypeId) (x:Operand) (f:Nat):zeg P T s ⟨dst,.fieldAddr t x f,ty,pos,af,g⟩ K = opK P T s ⟨dst,.fieldAddr t x f,ty,pos,af,g⟩ K:=(rfl)
theorem zoG [zah] (t:TypeId) (x:Operand) (f:Nat):zeg P T s ⟨dst,.field t x f,ty,pos,af,g⟩ K = opK P T s ⟨dst,.field t x f,ty,pos,af,g⟩ K:=(rfl)
theorem zgN [zah] (t:TypeId) (x i:Operand):zeg P T s ⟨dst,.indexAddr t x i,ty,pos,af,g⟩ K = opK P T s ⟨dst,.indexAddr t x i,ty,pos,af,g⟩ K:=(rfl)
theorem zoH [zah] (t:TypeId) (x i:Operand):zeg P T s ⟨dst,.index t x i,ty,pos,af,g⟩ K = opK P T s ⟨dst,.index t x i,ty,pos,af,g⟩ K:=(rfl)
theorem zjw [zah] (x:Operand) (i:Nat):zeg P T s ⟨dst,.extract x i,ty,pos,af,g⟩ K = opK P T s ⟨dst,.extract x i,ty,pos,af,g⟩ K:=(rfl)
theorem zhW [zah] (x:Operand):zeg P T s ⟨dst,.nilCheck x,ty,pos,af,g⟩ K = opK P T s ⟨dst,.nilCheck x,ty,pos,af,g⟩ K:=(rfl)
theorem zhX [zah] (f:Fn) (fi caps:Array Operand):zeg P T s ⟨dst,.makeFunc f fi caps,ty,pos,af,g⟩ K = opK P T s ⟨dst,.makeFunc f fi caps,ty,pos,af,g⟩ K:=(rfl)
theorem zoI [zah] (t:TypeId):zeg P T s ⟨dst,.alloc t,ty,pos,af,g⟩ K = opK P T s ⟨dst,.alloc t,ty,pos,af,g⟩ K:=(rfl)
theorem zwR [zah] (t:TypeId) (x:Operand):zeg P T s ⟨dst,.box t x,ty,pos,af,g⟩ K = opK P T s ⟨dst,.box t x,ty,pos,af,g⟩ K:=(rfl)
theorem zlA [zah] (t:TypeId) (n:Nat):zeg P T s ⟨dst,.buildSlice t n ⟨[]⟩,ty,pos,af,g⟩ K = opK P T s ⟨dst,.buildSlice t n ⟨[]⟩,ty,pos,af,g⟩ K:=(rfl)
theorem zlB [zah] (t:TypeId) (n:Nat) (p q:Nat × Operand) (l:List (Nat × Operand)):zeg P T s ⟨dst,.buildSlice t n ⟨p :: q :: l⟩,ty,pos,af,g⟩ K = opK P T s ⟨dst,.buildSlice t n ⟨p :: q :: l⟩,ty,pos,af,g⟩ K:=(rfl)
def zBN (T:Tab) (s:St) (d:Nat) (t:TypeId) (n i:Nat) (p:PV) (Kt:St→Prop) (A:Prop):Prop :=
 match p with
 | .own k ver=>(match (s.rw k).kind with | .tab _ _=>zka T s d t n i k ver Kt | .sli _ _ _ _=>A ∨ zka T s d t n i k ver Kt | _=>A)
 | _=>A
theorem zlC [zah] (d:Nat) (t:TypeId) (n i:Nat) (x:Operand):zeg P T s ⟨some d,.buildSlice t n ⟨[(i,x)]⟩,ty,pos,af,g⟩ K =
 zBN T s d t n i (s.ev x) (kk K) (kk (opK P T s ⟨some d,.buildSlice t n ⟨[(i,x)]⟩,ty,pos,af,g⟩ K)):=by
 unfold zeg zBN kk
 dsimp only
 cases s.ev x <;> rfl
theorem zBO (d:Nat) (t:TypeId) (n i:Nat) (x:Value) (A:Prop):zBN T s d t n i (.v x) (kk K) (kk A) = A:=(rfl)
theorem zwS (d:Nat) (t:TypeId) (n i:Nat) (fr:Bool) (z:Nat) (c:List PV) (A:Prop):zBN T s d t n i (.sl fr z c) (kk K) (kk A) = A:=(rfl)
theorem zwT (d:Nat) (t:TypeId) (n i:Nat) (c:List PV) (A:Prop):zBN T s d t n i (.ag c) (kk K) (kk A) = A:=(rfl)
theorem zoJ (d:Nat) (t:TypeId) (n i:Nat) (fr:Bool) (c:List PV) (o:Nat) (A:Prop):zBN T s d t n i (.eref fr c o) (kk K) (kk A) = A:=(rfl)
theorem zsW (d:Nat) (t:TypeId) (n i:Nat) (j v o:Nat) (A:Prop):zBN T s d t n i (.ref j v o) (kk K) (kk A) = A:=(rfl)
def zsX (T:Tab) (r:Row) (s:St) (d:Nat) (t:TypeId) (n i k ver:Nat) (Kt:St→Prop) (A:Prop):Prop:=match r.kind with | .tab _ _=>zka T s d t n i k ver Kt | .sli _ _ _ _=>A ∨ zka T s d t n i k ver Kt | _=>A
theorem zsY (d:Nat) (t:TypeId) (n i k ver:Nat) (A:Prop):zBN T s d t n i (.own k ver) (kk K) (kk A) = zsX T (s.rw k) s d t n i k ver (kk K) (kk A):=(rfl)
theorem zlD (d:Nat) (t:TypeId) (n i k ver v:Nat) (A:Prop):zsX T ⟨v,.nil⟩ s d t n i k ver (kk K) (kk A) = A:=(rfl)
def zhl (T:Tab) (s:St) (d:Nat) (kd:TK) (z n i k ver:Nat) (r:Row) (K:St→Prop):Prop:=0 < z∧n = 1∧i = 0∧r.ver = ver∧r.kind.slice = true∧d ≠ k∧(match kd with
 | .sli e=>(T e).size = 1∧K ((s.row d ⟨(s.rw d).ver + 1,.tab e [.own k ver]⟩).put (some d) (.own d ((s.rw d).ver + 1)))
 | _=>False)
def orB (A B:Prop):Prop:=A ∨ B
theorem zGs {A B:Prop} {u:Dm A} {v:Dm B} (h:A):orB (kk A u) (kk B v):=.inl h
theorem zlE (d:Nat) (t:TypeId) (n i k ver v e z:Nat) (fz:Bool) (c:List PV) (A:Prop):zsX T ⟨v,.sli e z fz c⟩ s d t n i k ver (kk K) (kk A) = orB (kk A) (kk (zhl T s d (T t).k (T t).size n i k ver (s.rw k) K)):=(rfl)
theorem zjx (d e k ver e' z:Nat) (fz:Bool) (c:List PV) (h:(T e).size = 1):zhl T s d (.sli e) 1 1 0 k ver ⟨ver,.sli e' z fz c⟩ K = (d ≠ k∧K ((s.row d ⟨(s.rw d).ver + 1,.tab e [.own k ver]⟩).put (some d) (.own d ((s.rw d).ver + 1)))):=by
 simp only [zhl,h,RK.slice,Nat.one_pos,true_and]
theorem zlF (d:Nat) (t:TypeId) (n i k ver v e:Nat) (c:List PV) (A:Prop):zsX T ⟨v,.tab e c⟩ s d t n i k ver (kk K) (kk A) = zhl T s d (T t).k (T t).size n i k ver (s.rw k) K:=(rfl)
theorem zjy (d e k ver e':Nat) (c:List PV) (h:(T e).size = 1):zhl T s d (.sli e) 1 1 0 k ver ⟨ver,.tab e' c⟩ K = (d ≠ k∧K ((s.row d ⟨(s.rw d).ver + 1,.tab e [.own k ver]⟩).put (some d) (.own d ((s.rw d).ver + 1)))):=by
 simp only [zhl,h,RK.slice,Nat.one_pos,true_and]
def zBP (T:Tab) (s:St) (d:Nat) (t t2:TypeId) (x:PV) (y:PV) (Kt:St→Prop) (A:Prop):Prop :=
 match x with
 | .own k ver=>(match (s.rw k).kind with | .tab e c=>zGi T s d t t2 k ver e c y Kt | _=>A)
 | _=>A
def zD7 (T:Tab) (s:St) (d:Nat) (t t2:TypeId) (x:PV) (y:PV) (Kt:St→Prop) (A:Prop):Prop :=
 match y with
 | .v (.string b)=>zrr T s d t t2 x b Kt
 | _=>zBP T s d t t2 x y Kt A
theorem zlG [zah] (d:Nat) (x y:Operand) (t t2:TypeId):zeg P T s ⟨some d,.call ⟨.builtin .append,⟨[x,y]⟩,⟨[t,t2]⟩⟩,ty,pos,af,g⟩ K =
 zD7 T s d t t2 (s.ev x) (s.ev y) (kk K) (kk (opK P T s ⟨some d,.call ⟨.builtin .append,⟨[x,y]⟩,⟨[t,t2]⟩⟩,ty,pos,af,g⟩ K)):=by
 unfold zeg zD7 zBP kk
 dsimp only
 cases s.ev y with
 | v z=>cases z <;> first | rfl | (cases s.ev x <;> rfl)
 | _=>cases s.ev x <;> rfl
theorem zsZ (d:Nat) (t t2:TypeId) (x:PV) (k ver:Nat) (A:Prop):zD7 T s d t t2 x (.own k ver) (kk K) (kk A) = zBP T s d t t2 x (.own k ver) (kk K) (kk A):=(rfl)
theorem zwU (d:Nat) (t t2:TypeId) (x:PV) (fr:Bool) (z:Nat) (c:List PV) (A:Prop):zD7 T s d t t2 x (.sl fr z c) (kk K) (kk A) = zBP T s d t t2 x (.sl fr z c) (kk K) (kk A):=(rfl)
theorem zlH (d:Nat) (t t2:TypeId) (x:PV) (a:Option Addr) (n c:Nat) (A:Prop):zD7 T s d t t2 x (.v (.slice a n c)) (kk K) (kk A) = zBP T s d t t2 x (.v (.slice a n c)) (kk K) (kk A):=(rfl)
def zwV (T:Tab) (r:Row) (s:St) (d:Nat) (kd:TK) (z:Nat) (kd2:TK) (z2 k ver:Nat) (b:ByteArray) (K:St→Prop):Prop :=
 0 < z∧0 < z2∧kd2 = .str∧match kd with
 | .sli e=>(T e).size = 1∧0 < (T e).bytes∧(r.ver = ver∧(match r.kind with
  | .nil=>b.size * (T e).bytes ≤ 140737488355328∧K (zc8 s d k (.sli e (T e).size false (zuh b)))
  | .sli e' sz' false c=>e' = e∧sz' = (T e).size∧(c.length + b.size) * (T e).bytes ≤ 140737488355328∧K (zc8 s d k (.sli e (T e).size false (c ++ zuh b)))
  | _=>False))
 | _=>False
theorem zs0 (d:Nat) (t t2:TypeId) (k ver:Nat) (b:ByteArray) (A:Prop):zD7 T s d t t2 (.own k ver) (.v (.string b)) (kk K) (kk A) = zwV T (s.rw k) s d (T t).k (T t).size (T t2).k (T t2).size k ver b (kk K):=(rfl)
theorem zoK (d k ver e:Nat) (c:List PV) (b:ByteArray) (h:(T e).size = 1) (h2:(T e).bytes = 1):zwV T ⟨ver,.sli e 1 false c⟩ s d (.sli e) 1 .str 1 k ver b (kk K) =
 (c.length + b.size ≤ 140737488355328∧K (zc8 s d k (.sli e 1 false (c ++ zuh b)))):=by
 simp only [zwV,h,h2,Nat.one_pos,true_and,kk,Nat.mul_one]
theorem zoL (d k ver e:Nat) (b:ByteArray) (h:(T e).size = 1) (h2:(T e).bytes = 1):zwV T ⟨ver,.nil⟩ s d (.sli e) 1 .str 1 k ver b (kk K) =
 (b.size ≤ 140737488355328∧K (zc8 s d k (.sli e 1 false (zuh b)))):=by
 simp only [zwV,h,h2,Nat.one_pos,true_and,kk,Nat.mul_one]
theorem zBQ (d:Nat) (t t2:TypeId) (x:Value) (y:PV) (A:Prop):zBP T s d t t2 (.v x) y (kk K) (kk A) = A:=(rfl)
theorem zwW (d:Nat) (t t2:TypeId) (fr:Bool) (z:Nat) (c:List PV) (y:PV) (A:Prop):zBP T s d t t2 (.sl fr z c) y (kk K) (kk A) = A:=(rfl)
def zmW (T:Tab) (r:Row) (s:St) (d:Nat) (t t2:TypeId) (k ver:Nat) (y:PV) (Kt:St→Prop) (A:Prop):Prop:=match r.kind with | .tab e c=>zGi T s d t t2 k ver e c y Kt | _=>A
theorem zs1 (d:Nat) (t t2:TypeId) (k ver:Nat) (y:PV) (A:Prop):zBP T s d t t2 (.own k ver) y (kk K) (kk A) = zmW T (s.rw k) s d t t2 k ver y (kk K) (kk A):=(rfl)
theorem zjz (d:Nat) (t t2:TypeId) (k ver v e z:Nat) (fz:Bool) (c:List PV) (y:PV) (A:Prop):zmW T ⟨v,.sli e z fz c⟩ s d t t2 k ver y (kk K) (kk A) = A:=(rfl)
theorem zjA (d:Nat) (t t2:TypeId) (k ver v:Nat) (y:PV) (A:Prop):zmW T ⟨v,.nil⟩ s d t t2 k ver y (kk K) (kk A) = A:=(rfl)
def zCQ (T:Tab) (s:St) (d:Nat) (kd:TK) (z k ver e:Nat) (r:Row) (c:List PV) (y:PV) (K:St→Prop):Prop :=
 0 < z∧kd = .sli e∧(T e).size = 1∧0 < (T e).bytes∧r.ver = ver∧zve s.rw y fun news=>(c.length + news.length) * (T e).bytes ≤ 140737488355328∧K (zc8 s d k (.tab e (c ++ news)))
theorem zjB (d:Nat) (t:TypeId) (k ver v e:Nat) (c:List PV) (y:PV) (A:Prop):zmW T ⟨v,.tab e c⟩ s d t t k ver y (kk K) (kk A) = zCQ T s d (T t).k (T t).size k ver e (s.rw k) c y (kk K):=propext ⟨fun h=>h.2,fun h=>⟨rfl,h⟩⟩
theorem zoM (d k ver e e':Nat) (c c':List PV) (y:PV) (h:(T e).size = 1) (h2:0 < (T e).bytes):zCQ T s d (.sli e) 1 k ver e ⟨ver,.tab e' c'⟩ c y (kk K) =
 zve s.rw y (kk fun news=>(c.length + news.length) * (T e).bytes ≤ 140737488355328∧K (zc8 s d k (.tab e (c ++ news)))):=by
 simp only [zCQ,h,h2,Nat.one_pos,true_and,kk]
def zoN (r:Row) (rw:Nat→Row) (v:Nat) (Kc:List PV→Prop):Prop:=r.ver = v∧(match r.kind with
 | .sli _ sz _ c=>sz = 1∧(∀ p ∈ c,isV p = true)∧Kc c
 | .tab _ c=>(∀ p ∈ c,zkR rw p)∧Kc c
 | _=>False)
theorem zoO (rw:Nat→Row) (j v:Nat) (Kc:List PV→Prop):zve rw (.own j v) (kk Kc) = zoN (rw j) rw v (kk Kc):=(rfl)
theorem zoP [zah] (rw:Nat→Row) (v e:Nat) (fz:Bool) (xs:List Int) (Kc:List PV→Prop):zoN ⟨v,.sli e 1 fz (iL xs)⟩ rw v (kk Kc) = Kc (iL xs):=by
 have:=zwg xs
 simp only [zoN,this,true_and,kk]
theorem zlI (rw:Nat→Row) (v e k ver:Nat) (Kc:List PV→Prop):zoN ⟨v,.tab e [.own k ver]⟩ rw v (kk Kc) = (zkR rw (.own k ver)∧Kc [.own k ver]):=by
 simp only [zoN,true_and,kk,List.mem_singleton,forall_eq]
theorem zoQ [zah] (t:TypeId) (parts:Array (Nat × Operand)):zeg P T s ⟨dst,.build t parts,ty,pos,af,g⟩ K = opK P T s ⟨dst,.build t parts,ty,pos,af,g⟩ K:=(rfl)
theorem zoR [zah] (t:TypeId) (ad x:Operand):zeg P T s ⟨dst,.store t ad x,ty,pos,af,g⟩ K = opK P T s ⟨dst,.store t ad x,ty,pos,af,g⟩ K:=(rfl)
theorem zs2 [zah] (t:TypeId) (l c:Operand):zeg P T s ⟨dst,.makeSlice t l c,ty,pos,af,g⟩ K = opK P T s ⟨dst,.makeSlice t l c,ty,pos,af,g⟩ K:=(rfl)
theorem zoS [zah] (t:TypeId) (x:Operand) (lo hi mx:Option Operand):zeg P T s ⟨dst,.slice t x lo hi mx,ty,pos,af,g⟩ K = opK P T s ⟨dst,.slice t x lo hi mx,ty,pos,af,g⟩ K:=(rfl)
theorem zjC [zah] (op:BinOp) (t t2:TypeId) (x:Operand) (y:Nat):zeg P T s ⟨dst,.binOp op t x (.tmp y) t2,ty,pos,af,g⟩ K = opK P T s ⟨dst,.binOp op t x (.tmp y) t2,ty,pos,af,g⟩ K:=by cases op <;> rfl
theorem zjD [zah] (op:BinOp) (t t2:TypeId) (x:Operand) (k:IntKind) (n:Int):zeg P T s ⟨dst,.binOp op t x (.const (.int k n)) t2,ty,pos,af,g⟩ K = opK P T s ⟨dst,.binOp op t x (.const (.int k n)) t2,ty,pos,af,g⟩ K:=by cases op <;> rfl
theorem zhY [zah] (op:BinOp) (t t2:TypeId) (x:Operand) (b:Bool):zeg P T s ⟨dst,.binOp op t x (.const (.bool b)) t2,ty,pos,af,g⟩ K = opK P T s ⟨dst,.binOp op t x (.const (.bool b)) t2,ty,pos,af,g⟩ K:=by cases op <;> rfl
theorem zfU [zah] (op:BinOp) (t t2:TypeId) (x:Operand) (b:ByteArray):zeg P T s ⟨dst,.binOp op t x (.const (.string b)) t2,ty,pos,af,g⟩ K = opK P T s ⟨dst,.binOp op t x (.const (.string b)) t2,ty,pos,af,g⟩ K:=by cases op <;> rfl
end
section
variable {dst:Option Nat} {ty:TypeId} {pos:String} {af:Array Edge} {g:Option (Nat × Bool)} {Ke:Ent→St→Prop}
theorem zwX [zah] (x:Operand):dK P T s ⟨dst,.move x,ty,pos,af,g⟩ (kk Ke) = evK (s.ev x) (kk fun p=>Ke ⟨[],.ids []⟩ (s.put dst p)):=(rfl)
theorem zoT [zah] (x:Operand):dK P T s ⟨dst,.assign x,ty,pos,af,g⟩ (kk Ke) = evK (s.ev x) (kk fun p=>Ke ⟨[],.ids []⟩ (s.put dst p)):=(rfl)
theorem zwY [zah] (c x y:Operand):dK P T s ⟨dst,.pick c x y,ty,pos,af,g⟩ (kk Ke) = zz4 (s.ev c) (kk (evK (s.ev x) (kk fun p=>Ke ⟨[],.ids []⟩ (s.put dst p)))) (kk (evK (s.ev y) (kk fun p=>Ke ⟨[],.ids []⟩ (s.put dst p)))):=(rfl)
theorem zBR [zah] (op:BinOp) (t t2:TypeId) (x y:Operand):dK P T s ⟨dst,.binOp op t x y t2,ty,pos,af,g⟩ (kk Ke) = zcY T op t (s.ev x) (s.ev y) (kk fun p=>Ke ⟨[],.ids []⟩ (s.put dst p)):=(rfl)
theorem zFi [zah] (op:UnOp) (t:TypeId) (x:Operand):dK P T s ⟨dst,.unOp op t x,ty,pos,af,g⟩ (kk Ke) = unK op (s.ev x) (kk fun p=>Ke ⟨[],.ids []⟩ (s.put dst p)):=(rfl)
theorem zlJ [zah] (a b:TypeId) (x:Operand):dK P T s ⟨dst,.convert a b x,ty,pos,af,g⟩ (kk Ke) = zc3 [s.ev x] [] (kk fun l=>zfL T s.rw a b (s.ev x) (kk fun p=>Ke ⟨l,.ids []⟩ (s.put dst p))):=(rfl)
theorem zwZ [zah] (t:TypeId) (x:Operand):dK P T s ⟨dst,.load t x,ty,pos,af,g⟩ (kk Ke) = zc3 [s.ev x] [] (kk fun l=>zqJ s.rw (s.ev x) (kk fun m c off=>ldK T t m c off (kk fun p=>Ke ⟨l,.ids []⟩ (s.put dst p)))):=(rfl)
theorem zhZ [zah] (t:TypeId) (x:Operand) (f:Nat):dK P T s ⟨dst,.fieldAddr t x f,ty,pos,af,g⟩ (kk Ke) =
 zc3 [s.ev x] [] (kk fun l=>zdK T t f (kk fun o _=>zkn (s.ev x) = true∧zdq s.rw (s.ev x) (kk (evK (zd9 (s.ev x) o) (kk fun p=>Ke ⟨l,.ids []⟩ (s.put dst p)))))):=(rfl)
theorem zs3 [zah] (t:TypeId) (x:Operand) (f:Nat):dK P T s ⟨dst,.field t x f,ty,pos,af,g⟩ (kk Ke) =
 agK (s.ev x) (kk fun c=>zdK T t f (kk fun o ft=>ldK T ft .asis c o (kk fun p=>Ke ⟨[],.ids []⟩ (s.put dst p)))):=zjo (P:=P) (T:=T) (s:=s) (K:=Ke ⟨[],.ids []⟩) (dst:=dst) (ty:=ty) (pos:=pos) (af:=af) (g:=g) t x f
theorem zh0 [zah] (t:TypeId) (x y:Operand):dK P T s ⟨dst,.indexAddr t x y,ty,pos,af,g⟩ (kk Ke) = zc3 [s.ev x,s.ev y] [] (kk fun l=>zby T s.rw t (s.ev x) (s.ev y) (kk fun p=>Ke ⟨l,.ids []⟩ (s.put dst p))):=(rfl)
theorem zs4 [zah] (t:TypeId) (x y:Operand):dK P T s ⟨dst,.index t x y,ty,pos,af,g⟩ (kk Ke) = zsK T t (s.ev x) (s.ev y) (kk fun p=>Ke ⟨[],.ids []⟩ (s.put dst p)):=(rfl)
theorem zlK [zah] (x:Operand) (n:Nat):dK P T s ⟨dst,.extract x n,ty,pos,af,g⟩ (kk Ke) = zGq (s.ev x) (kk fun ps=>n < ps.length∧evK (ps.getD n .junk) (kk fun p=>Ke ⟨[],.ids []⟩ (s.put dst p))):=(rfl)
theorem zjE [zah] (f:FuncId) (caps:Array Operand):dK P T s ⟨dst,.makeFunc (.func f) #[] caps,ty,pos,af,g⟩ (kk Ke) = Ke ⟨[],.ids []⟩ (s.put dst (.clo f (caps.toList.map s.ev))):=by
 show (#[] = (#[]:Array Operand)∧Ke ⟨[],.ids []⟩ (s.put dst (.clo f (caps.toList.map s.ev)))) = _
 simp
theorem zjF [zah] (x:Operand):dK P T s ⟨dst,.nilCheck x,ty,pos,af,g⟩ (kk Ke) = zc3 [s.ev x] [] (kk fun l=>zdq s.rw (s.ev x) (kk (evK (s.ev x) (kk fun p=>Ke ⟨l,.ids []⟩ (s.put dst p))))):=(rfl)
theorem zBS [zah] (x:Operand) (t:TypeId):dK P T s ⟨dst,.call ⟨.builtin .len,#[x],#[t]⟩,ty,pos,af,g⟩ (kk Ke) = zc3 [s.ev x] [] (kk fun l=>zyu T s.rw t (s.ev x) (kk fun p=>Ke ⟨l,.ids []⟩ (s.put dst p))):=(rfl)
theorem zBT [zah] (x y:Operand) (ts:Array TypeId):dK P T s ⟨dst,.call ⟨.builtin .max,#[x,y],ts⟩,ty,pos,af,g⟩ (kk Ke) = zc3 [s.ev x,s.ev y] [] (kk fun l=>zcI true (s.ev x) (s.ev y) (kk fun p=>Ke ⟨l,.ids []⟩ (s.put dst p))):=(rfl)
theorem zBU [zah] (x y:Operand) (ts:Array TypeId):dK P T s ⟨dst,.call ⟨.builtin .min,#[x,y],ts⟩,ty,pos,af,g⟩ (kk Ke) = zc3 [s.ev x,s.ev y] [] (kk fun l=>zcI false (s.ev x) (s.ev y) (kk fun p=>Ke ⟨l,.ids []⟩ (s.put dst p))):=(rfl)
theorem zoU [zah] (t:TypeId) (x:Operand) (mx:Option Operand):dK P T s ⟨dst,.slice t x none none mx,ty,pos,af,g⟩ (kk Ke) = zc3 (s.ev x :: (mx.toList).map s.ev) [] (kk fun l=>zbG T s.rw s.ev t (s.ev x) none none mx (kk fun p=>Ke ⟨l,.ids []⟩ (s.put dst p))):=by
 cases mx <;> rfl
theorem zoV [zah] (t:TypeId) (x lo:Operand):dK P T s ⟨dst,.slice t x (some lo) none none,ty,pos,af,g⟩ (kk Ke) = zc3 [s.ev x,s.ev lo] [] (kk fun l=>zbG T s.rw s.ev t (s.ev x) (some lo) none none (kk fun p=>Ke ⟨l,.ids []⟩ (s.put dst p))):=(rfl)
def zoW (T:Tab) (s:St) (dst:Option Nat) (t:TypeId) (x hi:Operand) (r:Row) (k ver:Nat) (py:PV) (Ke:Ent→St→Prop):Prop :=
 match r.kind with
 | .sli _ _ false _=>zHV T s dst t r k ver py Ke
 | _=>zc3 [.own k ver,py] [] (kk fun l=>zbG T s.rw s.ev t (.own k ver) none (some hi) none (kk fun p=>Ke ⟨l,.ids []⟩ (s.put dst p)))
def zFj (T:Tab) (s:St) (dst:Option Nat) (t:TypeId) (x hi:Operand) (px py:PV) (Ke:Ent→St→Prop):Prop :=
 match px with
 | .own k ver=>zoW T s dst t x hi (s.rw k) k ver py Ke
 | _=>zc3 [px,py] [] (kk fun l=>zbG T s.rw s.ev t px none (some hi) none (kk fun p=>Ke ⟨l,.ids []⟩ (s.put dst p)))
theorem zs5 (t:TypeId) (x hi:Operand) (k ver:Nat) (py:PV):zFj T s dst t x hi (.own k ver) py (kk Ke) = zoW T s dst t x hi (s.rw k) k ver py (kk Ke):=(rfl)
theorem zw0 (t:TypeId) (x hi:Operand) (fr:Bool) (z:Nat) (c:List PV) (py:PV):zFj T s dst t x hi (.sl fr z c) py (kk Ke) = zc3 [.sl fr z c,py] [] (kk fun l=>zbG T s.rw s.ev t (.sl fr z c) none (some hi) none (kk fun p=>Ke ⟨l,.ids []⟩ (s.put dst p))):=(rfl)
theorem zBV (t:TypeId) (x hi:Operand) (v:Value) (py:PV):zFj T s dst t x hi (.v v) py (kk Ke) = zc3 [.v v,py] [] (kk fun l=>zbG T s.rw s.ev t (.v v) none (some hi) none (kk fun p=>Ke ⟨l,.ids []⟩ (s.put dst p))):=(rfl)
theorem zoX (t:TypeId) (x hi:Operand) (v e z:Nat) (c:List PV) (k ver:Nat) (py:PV):zoW T s dst t x hi ⟨v,.sli e z true c⟩ k ver py (kk Ke) = zc3 [.own k ver,py] [] (kk fun l=>zbG T s.rw s.ev t (.own k ver) none (some hi) none (kk fun p=>Ke ⟨l,.ids []⟩ (s.put dst p))):=(rfl)
def zGt (T:Tab) (t e:TypeId):Prop:=0 < (T t).size∧(T t).k = .sli e∧0 < (T e).size∧(T e).size = 1
theorem zjG (t:TypeId) (x hi:Operand) (v e:Nat) (c:List PV) (k ver d:Nat) (kd:IntKind) (m:Int):zoW T s (some d) t x hi ⟨v,.sli e 1 false c⟩ k ver (.v (.int kd m)) (kk Ke) =
 (v = ver∧zGt T t e∧0 ≤ m∧m ≤ (c.length:Int)∧Ke ⟨[],.ids [k]⟩ ((s.row k ⟨ver + 1,.sli e 1 false (c.take m.toNat)⟩).put (some d) (.own k (ver + 1)))):=by
 refine propext ⟨fun h=>?_,fun ⟨h1,⟨h2,h3,h4,h5⟩,h6,h7,h8⟩=>⟨d,e,c,kd,m,rfl,by rw [h1],h2,h3,h4,h5,rfl,h6,h7,h8⟩⟩
 obtain ⟨d',e',c',kd',m',g1,g2,g3,g4,g5,g6,g7,g8,g9,g10⟩:=h
 cases g1;cases g2;cases g7
 exact ⟨rfl,⟨g3,g4,g5,g6⟩,g8,g9,g10⟩
theorem zoY [zah] (t:TypeId) (x hi:Operand):dK P T s ⟨dst,.slice t x none (some hi) none,ty,pos,af,g⟩ (kk Ke) = zFj T s dst t x hi (s.ev x) (s.ev hi) (kk Ke):=by
 have hr:(zeL T s.rw s.ev (.slice t x none (some hi) none) fun p=>Ke ⟨zm4 s ⟨dst,.slice t x none (some hi) none,ty,pos,af,g⟩,.ids []⟩ (s.put dst p)) = zc3 [s.ev x,s.ev hi] [] (kk fun l=>zbG T s.rw s.ev t (s.ev x) none (some hi) none (kk fun p=>Ke ⟨l,.ids []⟩ (s.put dst p))):=(rfl)
 show zGh T s ⟨dst,.slice t x none (some hi) none,ty,pos,af,g⟩ t (s.ev x) (s.ev hi) (kk Ke) = _
 cases hx:s.ev x with
 | own k ver =>
   rw [hx] at hr
   unfold zGh zFj zoW
   dsimp only
   generalize s.rw k = r
   cases r with
   | mk v kd =>
     cases kd with
     | sli e z fz c=>cases fz with
       | false=>rfl
       | true=>exact hr
     | _=>exact hr
 | _=>rw [hx] at hr;exact hr
theorem zoZ [zah] (t:TypeId) (x lo hi:Operand):dK P T s ⟨dst,.slice t x (some lo) (some hi) none,ty,pos,af,g⟩ (kk Ke) = zc3 [s.ev x,s.ev lo,s.ev hi] [] (kk fun l=>zbG T s.rw s.ev t (s.ev x) (some lo) (some hi) none (kk fun p=>Ke ⟨l,.ids []⟩ (s.put dst p))):=(rfl)
theorem zs6 [zah] (t:TypeId) (parts:List (Nat × Operand)):dK P T s ⟨dst,.build t ⟨parts⟩,ty,pos,af,g⟩ (kk Ke) = zc3 (evs s parts) [] (kk fun l=>zFh T s.rw (T t).k (T t).size (T t).zero (zD6 s parts) (kk fun p=>Ke ⟨l,.ids []⟩ (s.put dst p))):=by
 have e:((Op.build t ⟨parts⟩).operands.toList.map s.ev).flatMap zej = (evs s parts).flatMap zej:=by
  simp [Op.operands,evs]
  rfl
 show zeL T s.rw s.ev (.build t ⟨parts⟩) (fun p=>Ke ⟨((Op.build t ⟨parts⟩).operands.toList.map s.ev).flatMap zej,.ids []⟩ (s.put dst p)) = _
 rw [e]
 exact (zBK (T:=T) (s:=s) t parts (fun p=>Ke ⟨(evs s parts).flatMap zej,.ids []⟩ (s.put dst p)))
def zFk [zah] (P:Program) (f:FuncId) (raw:List PV) (d:Nat) (s:St) (Ke:Ent→St→Prop):Prop:=zFy P s f raw d (fun rd k s1=>Ke ⟨rd,.ids [d,k]⟩ s1)
theorem zz7 [zah] {f:FuncId} {raw lent:List PV} {k d:Nat} {x:RV} {r:Row} {Ka:RV→Prop} {us:Dm s} {u:Dm Ke} (rd:List Nat) (h:∀ s':St,s'.rw k = s.rw k→(∀ a ∈ rd,s'.rw a = s.rw a)→∀ K':St→Prop,K' (zal (s'.row k r) d x)→askG P s' f raw (some d) K') (hd:d % 1000 ≠ k % 1000)
 (hk:Ke ⟨rd,.ids [d,k]⟩ (zal (s.row k r) d x)):zjq P f lent Ka (zFk P f raw d (kk s us) (kk Ke u)):=.inr (.inr (.inr ⟨rd,k,x,r,h,hd,hk⟩))
theorem zw1 [zah] (d:Nat) (f:Operand) (args:List Operand) (ts:Array TypeId):dK P T s ⟨some d,.call ⟨.value f,⟨args⟩,ts⟩,ty,pos,af,g⟩ (kk Ke) =
 zeK s.rw 3 (zwK s args) [] (kk fun l=>zeK s.rw 4 [s.ev f] l (kk fun l'=>zzK (s.ev f) (kk fun g caps=>zjq P g (zhk s args ++ caps.map (zcx s.rw 3)) (kk fun rv=>Ke ⟨l',.res d⟩ (zal s d rv)) (zFk P g (zwK s args ++ caps) d (kk s) (kk Ke))))):=by
 simp only [zeK,zz3,List.nil_append,List.flatMap_cons,List.flatMap_nil,List.append_nil]
 show (zeo P s.rw s.ev f ⟨args⟩ (fun rv=>Ke ⟨(zwK s args).flatMap (zd7 s.rw 3) ++ zd7 s.rw 4 (s.ev f),.res d⟩ (zal s d rv)) ∨ tdK P s f ⟨.value f,⟨args⟩,ts⟩ d Ke) = _
 unfold zeo tdK zzK zjq zFk kk
 cases s.ev f <;> first | rfl | (simp;done) | skip
theorem zh1 [zah] (f:Operand) (args:List Operand) (ts:Array TypeId):dK P T s ⟨none,.call ⟨.value f,⟨args⟩,ts⟩,ty,pos,af,g⟩ (kk Ke) =
 zeK s.rw 3 (zwK s args) [] (kk fun l=>zeK s.rw 4 [s.ev f] l (kk fun l'=>zzK (s.ev f) (kk fun g caps=>zjq P g (zhk s args ++ caps.map (zcx s.rw 3)) (kk fun rv=>Ke ⟨l',.ids []⟩ s) False))):=by
 have e:=zz6 (P:=P) (s:=s) f args (fun rv=>Ke ⟨(zwK s args).flatMap (zd7 s.rw 3) ++ zd7 s.rw 4 (s.ev f),.ids []⟩ s)
 simp only [zeK,zz3,List.nil_append,List.flatMap_cons,List.flatMap_nil,List.append_nil]
 exact e
theorem zo0 [zah] (d:Nat) (x y:Operand) (t t2:TypeId):dK P T s ⟨some d,.call ⟨.builtin .append,#[x,y],#[t,t2]⟩,ty,pos,af,g⟩ (kk Ke) =
 zc3 [s.ev y] [] (kk fun l=>zc3 [s.ev x] [d] (kk fun l'=>opK P T s ⟨some d,.call ⟨.builtin .append,#[x,y],#[t,t2]⟩,ty,pos,af,g⟩ (Ke ⟨l,.ids l'⟩))):=by
 have e:∀ p:PV,[p].flatMap zej = zej p:=fun p=>by simp
 unfold zc3
 simp only [kk,e,List.nil_append]
 rfl
theorem zs7 [zah] (d:Nat) (t:TypeId):dK P T s ⟨some d,.alloc t,ty,pos,af,g⟩ (kk Ke) = opK P T s ⟨some d,.alloc t,ty,pos,af,g⟩ (Ke ⟨[],.ids [d]⟩):=(rfl)
theorem zBW [zah] (d:Nat) (t:TypeId) (x:Operand):dK P T s ⟨some d,.box t x,ty,pos,af,g⟩ (kk Ke) = zc3 [s.ev x] [] (kk fun l=>opK P T s ⟨some d,.box t x,ty,pos,af,g⟩ (Ke ⟨l,.ids [d]⟩)):=by
 have e:∀ p:PV,[p].flatMap zej = zej p:=fun p=>by simp
 unfold zc3
 simp only [kk,e,List.nil_append]
 rfl
theorem zgO [zah] (d:Nat) (t:TypeId) (n:Nat) (parts:List (Nat × Operand)):dK P T s ⟨some d,.buildSlice t n ⟨parts⟩,ty,pos,af,g⟩ (kk Ke) = zc3 (evs s parts) [d] (kk fun l=>opK P T s ⟨some d,.buildSlice t n ⟨parts⟩,ty,pos,af,g⟩ (Ke ⟨[],.ids l⟩)):=(rfl)
theorem zs8 [zah] (t:TypeId) (ad x:Operand):dK P T s ⟨dst,.store t ad x,ty,pos,af,g⟩ (kk Ke) = zc3 [s.ev ad,s.ev x] [] (kk fun l=>opK P T s ⟨dst,.store t ad x,ty,pos,af,g⟩ (Ke ⟨[],.ids l⟩)):=by
 have e:[s.ev ad,s.ev x].flatMap zej = zej (s.ev ad) ++ zej (s.ev x):=by simp
 unfold zc3
 simp only [kk,e,List.nil_append]
 rfl
theorem zw2 [zah] (d:Nat) (t:TypeId) (l c:Operand):dK P T s ⟨some d,.makeSlice t l c,ty,pos,af,g⟩ (kk Ke) = opK P T s ⟨some d,.makeSlice t l c,ty,pos,af,g⟩ (Ke ⟨[],.ids [d]⟩):=(rfl)
end
def TK.isInt:TK→Bool | .int _=>true | _=>false
section
variable {Kp:PV→Prop} {rw:Nat→Row}
section
variable (t:TypeId) (k:IntKind) (a b:Int)
theorem zw3:zcY T .add t (.v (.int k a)) (.v (.int k b)) Kp = Kp (.v (.int k (k.wrap (a + b)))):=by simp [zcY,zbH,zcb]
theorem zw4:zcY T .sub t (.v (.int k a)) (.v (.int k b)) Kp = Kp (.v (.int k (k.wrap (a - b)))):=by simp [zcY,zbH,zcb]
theorem zw5:zcY T .mul t (.v (.int k a)) (.v (.int k b)) Kp = Kp (.v (.int k (k.wrap (a * b)))):=by simp [zcY,zbH,zcb]
theorem zw6:zcY T .quo t (.v (.int k a)) (.v (.int k b)) Kp = (b ≠ 0∧Kp (.v (.int k (k.wrap (a.tdiv b))))):=by simp [zcY,zbH,zcb]
theorem zw7:zcY T .rem t (.v (.int k a)) (.v (.int k b)) Kp = (b ≠ 0∧Kp (.v (.int k (a.tmod b)))):=by simp [zcY,zbH,zcb]
theorem zw8:zcY T .and t (.v (.int k a)) (.v (.int k b)) Kp = Kp (.v (.int k (zdL k a b))):=by simp [zcY,zbH,zcb]
theorem zBX:zcY T .or t (.v (.int k a)) (.v (.int k b)) Kp = Kp (.v (.int k (ior k a b))):=by simp [zcY,zbH,zcb]
theorem zw9:zcY T .xor t (.v (.int k a)) (.v (.int k b)) Kp = Kp (.v (.int k (zC8 k a b))):=by simp [zcY,zbH,zcb]
theorem zlL:zcY T .andNot t (.v (.int k a)) (.v (.int k b)) Kp = Kp (.v (.int k (zdr k a b))):=by simp [zcY,zbH,zcb]
theorem zxa (k':IntKind):zcY T .shl t (.v (.int k a)) (.v (.int k' b)) Kp = (0 ≤ b∧Kp (.v (.int k (zgs k a b)))):=by simp [zcY,zbH,zcb]
theorem zxb (k':IntKind):zcY T .shr t (.v (.int k a)) (.v (.int k' b)) Kp = (0 ≤ b∧Kp (.v (.int k (zne k a b)))):=by simp [zcY,zbH,zcb]
theorem zxc:zcY T .eql t (.v (.int k a)) (.v (.int k b)) Kp = Kp (.v (.bool (a == b))):=by simp [zcY,zbH,zcb]
theorem zxd:zcY T .neq t (.v (.int k a)) (.v (.int k b)) Kp = Kp (.v (.bool (a != b))):=by simp [zcY,zbH,zcb]
theorem zxe:zcY T .lss t (.v (.int k a)) (.v (.int k b)) Kp = Kp (.v (.bool (decide (a < b)))):=by simp [zcY,zbH,zcb]
theorem zxf:zcY T .leq t (.v (.int k a)) (.v (.int k b)) Kp = Kp (.v (.bool (decide (a ≤ b)))):=by simp [zcY,zbH,zcb]
theorem zxg:zcY T .gtr t (.v (.int k a)) (.v (.int k b)) Kp = Kp (.v (.bool (decide (b < a)))):=by simp [zcY,zbH,zcb]
theorem zxh:zcY T .geq t (.v (.int k a)) (.v (.int k b)) Kp = Kp (.v (.bool (decide (b ≤ a)))):=by simp [zcY,zbH,zcb]
end
theorem zjH (t:TypeId) (a b:ByteArray):zcY T .eql t (.v (.string a)) (.v (.string b)) Kp = Kp (.v (.bool (a.toList == b.toList))):=by simp [zcY,zms]
theorem zjI (t:TypeId) (a b:ByteArray):zcY T .neq t (.v (.string a)) (.v (.string b)) Kp = Kp (.v (.bool (!(a.toList == b.toList)))):=by simp [zcY,zms]
theorem zjJ (t:TypeId) (a b:ByteArray):zcY T .add t (.v (.string a)) (.v (.string b)) Kp = (a.size + b.size ≤ 9223372036854775807∧Kp (.v (.string (a ++ b)))):=by simp [zcY,zms]
theorem zh2 (t:TypeId) (a b:Bool):zcY T .eql t (.v (.bool a)) (.v (.bool b)) Kp = ((T t).k = .bool∧0 < (T t).size∧Kp (.v (.bool (a == b)))):=by simp [zcY]
theorem zh3 (t:TypeId) (a b:Bool):zcY T .neq t (.v (.bool a)) (.v (.bool b)) Kp = ((T t).k = .bool∧0 < (T t).size∧Kp (.v (.bool (!(a == b))))):=by simp [zcY]
theorem zBY (b:Bool):unK .not (.v (.bool b)) Kp = Kp (.v (.bool !b)):=(rfl)
theorem zBZ (k:IntKind) (n:Int):unK .neg (.v (.int k n)) Kp = Kp (.v (.int k (k.wrap (0 - n)))):=(rfl)
theorem zs9 (fr:Bool) (c:List PV) (off:Nat) (Km:Md→List PV→Nat→Prop):zqJ rw (.eref fr c off) Km = Km (.set fr) c off:=(rfl)
def zjK (r:Row) (ver off:Nat) (Km:Md→List PV→Nat→Prop):Prop:=r.ver = ver∧match r.kind with | .box _ c=>Km .asis c off | .sli _ _ _ c=>Km (.set true) c off | .tab _ c=>Km .asis c off | _=>False
theorem zxi (j ver off:Nat) (Km:Md→List PV→Nat→Prop):zqJ rw (.ref j ver off) Km = zjK (rw j) ver off Km:=(rfl)
theorem zlM (ver off:Nat) (bt:TypeId) (c:List PV) (Km:Md→List PV→Nat→Prop):zjK ⟨ver,.box bt c⟩ ver off Km = Km .asis c off:=by simp [zjK]
theorem zlN (ver off e:Nat) (c:List PV) (Km:Md→List PV→Nat→Prop):zjK ⟨ver,.tab e c⟩ ver off Km = Km .asis c off:=by simp [zjK]
theorem zlO (ver off e sz:Nat) (fz:Bool) (c:List PV) (Km:Md→List PV→Nat→Prop):zjK ⟨ver,.sli e sz fz c⟩ ver off Km = Km (.set true) c off:=by simp [zjK]
def zh4 (r:Row) (ver:Nat) (K:PV→Prop):Prop:=r.ver = ver∧match r.kind with | .nil=>K (.v (.int .i64 0)) | .sli _ sz _ c=>0 < sz∧K (.v (.int .i64 ((c.length / sz:Nat):Int))) | .tab _ c=>K (.v (.int .i64 (c.length:Int))) | _=>False
def zCR (rw:Nat→Row) (k:TK) (z:Nat) (x:PV) (K:PV→Prop):Prop :=
 0 < z∧match k with
 | .str=>(match x with | .v (.string s)=>K (.v (.int .i64 s.size)) | _=>False)
 | .sli _=>zvV rw x fun sz n=>0 < sz∧K (.v (.int .i64 ((n / sz:Nat):Int)))
 | .arr n _=>K (.v (.int .i64 n))
 | _=>False
theorem zB0 (t:TypeId) (x:PV):zyu T rw t x Kp = zCR rw (T t).k (T t).size x Kp:=(rfl)
theorem zxj (b:ByteArray):zCR rw .str 1 (.v (.string b)) Kp = Kp (.v (.int .i64 b.size)):=by simp [zCR]
theorem zB1 (e:TypeId) (fr:Bool) (c:List PV):zCR rw (.sli e) 1 (.sl fr 1 c) Kp = Kp (.v (.int .i64 (c.length:Int))):=by simp [zCR,zvV]
theorem zxk (e:TypeId) (j ver:Nat):zCR rw (.sli e) 1 (.own j ver) Kp = zh4 (rw j) ver Kp:=by
 simp only [zCR,zvV,zh4,true_and,Nat.one_pos]
 cases (rw j).kind <;> simp
theorem zlP (ver e:Nat) (fz:Bool) (c:List PV):zh4 ⟨ver,.sli e 1 fz c⟩ ver Kp = Kp (.v (.int .i64 (c.length:Int))):=by simp [zh4]
theorem zlQ (ver e:Nat) (c:List PV):zh4 ⟨ver,.tab e c⟩ ver Kp = Kp (.v (.int .i64 (c.length:Int))):=by simp [zh4]
theorem zlR (ver:Nat):zh4 ⟨ver,.nil⟩ ver Kp = Kp (.v (.int .i64 0)):=by simp [zh4]
def iaD (T:Tab) (rw:Nat→Row) (kd:TK) (z:Nat) (x i:PV) (K:PV→Prop):Prop :=
 match i with
 | .v (.int _ n) =>
   0 < z∧match kd with
   | .sli e =>
     (match x with
     | .sl fr sz c=>0 < (T e).size∧sz = (T e).size∧0 ≤ n∧n.toNat * sz < c.length∧K (.eref fr c (n.toNat * sz))
     | .own k ver=>(rw k).ver = ver∧match (rw k).kind with | .sli _ sz _ c=>0 < (T e).size∧sz = (T e).size∧0 ≤ n∧n.toNat * sz < c.length∧K (.ref k ver (n.toNat * sz)) | .tab _ c=>(T e).size = 1∧0 ≤ n∧n.toNat < c.length∧K (.ref k ver n.toNat) | _=>False
     | _=>False)
   | .arr len e=>zkn x = true∧0 < (T e).size∧0 ≤ n∧n < len∧zdq rw x (K (zd9 x (n.toNat * (T e).size)))
   | _=>False
 | _=>False
theorem zFl (t:TypeId) (x i:PV):zby T rw t x i Kp = iaD T rw (T t).k (T t).size x i Kp:=(rfl)
theorem zFm {e:TypeId} {k:IntKind} (fr:Bool) (c:List PV) (n:Int) (h2:(T e).size = 1) :
 iaD T rw (.sli e) 1 (.sl fr 1 c) (.v (.int k n)) Kp = (0 ≤ n∧n < (c.length:Int)∧Kp (.eref fr c n.toNat)):=by
 simp only [iaD,h2,Nat.mul_one,true_and,Nat.one_pos]
 refine propext ⟨fun ⟨a,b,c⟩=>⟨a,by omega,c⟩,fun ⟨a,b,c⟩=>⟨a,by omega,c⟩⟩
def zuQ (r:Row) (j ver:Nat) (n:Int) (K:PV→Prop):Prop:=r.ver = ver∧match r.kind with | .sli _ sz _ c=>sz = 1∧0 ≤ n∧n < (c.length:Int)∧K (.ref j ver n.toNat) | .tab _ c=>0 ≤ n∧n < (c.length:Int)∧K (.ref j ver n.toNat) | _=>False
theorem zB2 {e:TypeId} {k:IntKind} (j ver:Nat) (n:Int) (h2:(T e).size = 1) :
 iaD T rw (.sli e) 1 (.own j ver) (.v (.int k n)) Kp = zuQ (rw j) j ver n Kp:=by
 simp only [iaD,h2,zuQ,true_and,Nat.one_pos]
 cases (rw j).kind <;> simp
 ·rintro _ rfl h
  rw [Nat.mul_one]
  exact ⟨fun ⟨a,b⟩=>⟨by omega,b⟩,fun ⟨a,b⟩=>⟨by omega,b⟩⟩
 ·intros;omega
theorem zxl {e:TypeId} {k:IntKind} (len z j ver off:Nat) (n:Int) (h2:(T e).size = 1):iaD T rw (.arr len e) (z + 1) (.ref j ver off) (.v (.int k n)) Kp = (0 ≤ n∧n < (len:Int)∧zdq rw (.ref j ver off) (kk (Kp (.ref j ver (off + n.toNat))))):=by
 simp only [iaD,h2,Nat.mul_one,Nat.zero_lt_succ,Nat.one_pos,true_and,zkn,zd9,kk]
theorem zB3 [zah] {e:TypeId} {k:IntKind} (len z j ver off:Nat) (n:Int) (h2:(T e).size = 1):iaD T rw (.arr len e) (z + 1) (.ref j ver (off + 1)) (.v (.int k n)) Kp = (0 ≤ n∧n < (len:Int)∧zdq rw (.ref j ver (off + 1)) (kk (Kp (.ref j ver (off + 1 + n.toNat))))):=zxl _ _ _ _ _ _ h2
theorem zxm [zah] {e:TypeId} {k:IntKind} (len z j ver:Nat) (n:Int) (h2:(T e).size = 1):iaD T rw (.arr len e) (z + 1) (.ref j ver 0) (.v (.int k n)) Kp = (0 ≤ n∧n < (len:Int)∧zdq rw (.ref j ver 0) (kk (Kp (.ref j ver n.toNat)))):=by
 rw [zxl _ _ _ _ _ _ h2,Nat.zero_add]
theorem zo1 (j ver e:Nat) (c:List PV) (n:Int):zuQ ⟨ver,.tab e c⟩ j ver n Kp = (0 ≤ n∧n < (c.length:Int)∧Kp (.ref j ver n.toNat)):=by simp [zuQ]
theorem zo2 (j ver e:Nat) (fz:Bool) (c:List PV) (n:Int):zuQ ⟨ver,.sli e 1 fz c⟩ j ver n Kp = (0 ≤ n∧n < (c.length:Int)∧Kp (.ref j ver n.toNat)):=by simp [zuQ]
theorem zgb {α:Type} (f:α→PV) (d:α) (xs:List α) {t:TypeId} {m:Md} (o:Nat) (g:α→PV) (hg:∀ x,m.fix (f x) = g x) (h0:(T t).k.agg = false) (h1:0 < (T t).size) :
 ldK T t m (xs.map f) o Kp = (o < xs.length∧Kp (g (xs.getD o d))):=by
 simp only [ldK,h0,h1,true_and,List.length_map]
 refine propext ⟨fun ⟨a,b⟩=>⟨a,?_⟩,fun ⟨a,b⟩=>⟨a,?_⟩⟩
 ·have e:(xs.map f).getD o .junk = f xs[o]:=by simp [List.getD,a]
  have e2:xs.getD o d = xs[o]:=by simp [List.getD,a]
  rw [e,hg] at b
  rw [e2]
  exact b
 ·have e:(xs.map f).getD o .junk = f xs[o]:=by simp [List.getD,a]
  have e2:xs.getD o d = xs[o]:=by simp [List.getD,a]
  rw [e,hg]
  rw [e2] at b
  exact b
theorem zuR (m:Md) (v:Value):m.fix (.v v) = .v v:=by cases m <;> rfl
theorem zB4 (fr f:Bool) (sz:Nat) (c:List PV):(Md.set fr).fix (.sl f sz c) = .sl fr sz c:=(rfl)
theorem zta (p:PV):Md.asis.fix p = p:=(rfl)
theorem zFn [zah] (xs:List Int) {t:TypeId} {m:Md} (o:Nat) (h0:(T t).k.agg = false) (h1:0 < (T t).size):ldK T t m (iL xs) o Kp = (o < xs.length∧Kp (.v (.int .i64 (xs.getD o 0)))) :=
 zgb _ 0 xs o _ (fun x=>zuR m _) h0 h1
theorem zFo [zah] (k:IntKind) (xs:List Int) {t:TypeId} {m:Md} (o:Nat) (h0:(T t).k.agg = false) (h1:0 < (T t).size):ldK T t m (kL k xs) o Kp = (o < xs.length∧Kp (.v (.int k (xs.getD o 0)))) :=
 zgb _ 0 xs o _ (fun x=>zuR m _) h0 h1
theorem zFp [zah] (xs:List Bool) {t:TypeId} {m:Md} (o:Nat) (h0:(T t).k.agg = false) (h1:0 < (T t).size):ldK T t m (bL xs) o Kp = (o < xs.length∧Kp (.v (.bool (xs.getD o false)))) :=
 zgb _ false xs o _ (fun x=>zuR m _) h0 h1
theorem zFq [zah] (xs:List ByteArray) {t:TypeId} {m:Md} (o:Nat) (h0:(T t).k.agg = false) (h1:0 < (T t).size):ldK T t m (sL xs) o Kp = (o < xs.length∧Kp (.v (.string (xs.getD o ⟨#[]⟩)))) :=
 zgb (fun n=>PV.v (.string n)) ⟨#[]⟩ xs o (fun n=>PV.v (.string n)) (fun x=>zuR m _) h0 h1
theorem zB5 [zah] (xs:List (List Int)) {t:TypeId} {fr:Bool} (o:Nat) (h0:(T t).k.agg = false) (h1:0 < (T t).size):ldK T t (.set fr) (iLL xs) o Kp = (o < xs.length∧Kp (.sl fr 1 (iL (xs.getD o [])))) :=
 zgb _ [] xs o (fun r=>.sl fr 1 (iL r)) (fun x=>rfl) h0 h1
theorem zFr {t:TypeId} {m:Md} (p:PV) (c:List PV) (h0:(T t).k.agg = false) (h1:0 < (T t).size):ldK T t m (p :: c) 0 Kp = evK (m.fix p) Kp:=by simp [ldK,h0,h1,evK]
theorem zFs {t:TypeId} {m:Md} (p q:PV) (c:List PV) (h0:(T t).k.agg = false) (h1:0 < (T t).size):ldK T t m (p :: q :: c) 1 Kp = evK (m.fix q) Kp:=by simp [ldK,h0,h1,evK]
theorem zFt {t:TypeId} {m:Md} (p q r:PV) (c:List PV) (h0:(T t).k.agg = false) (h1:0 < (T t).size):ldK T t m (p :: q :: r :: c) 2 Kp = evK (m.fix r) Kp:=by simp [ldK,h0,h1,evK]
theorem zFu {t:TypeId} {m:Md} (p q r s:PV) (c:List PV) (h0:(T t).k.agg = false) (h1:0 < (T t).size):ldK T t m (p :: q :: r :: s :: c) 3 Kp = evK (m.fix s) Kp:=by simp [ldK,h0,h1,evK]
theorem zxn {t:TypeId} {m:Md} (p:PV) (c0:List PV) (o:Nat) (h0:(T t).k.agg = true) (h1:0 < (T t).size):ldK T t m (p :: c0) o Kp = (o + (T t).size ≤ (p :: c0).length∧evK (.ag ((((p :: c0).drop o).take (T t).size).map m.fix)) Kp):=by simp [ldK,h0,h1,evK]
def ztb (T:Tab) (kd:TK) (z:Nat) (f:Nat) (K:Nat→TypeId→Prop):Prop :=
 0 < z∧match kd with | .struct fs=>(match fs[f]? with | some (o,ft)=>0 < (T ft).size∧K o ft | none=>False) | _=>False
def zFv (T:Tab) (x:Option (Nat × TypeId)) (K:Nat→TypeId→Prop):Prop:=match x with | some (o,ft)=>0 < (T ft).size∧K o ft | none=>False
theorem ztc (t:TypeId) (f:Nat) (Kf:Nat→TypeId→Prop):zdK T t f Kf = ztb T (T t).k (T t).size f Kf:=(rfl)
theorem zeW (fs:List (Nat × TypeId)) (z f:Nat) (Kf:Nat→TypeId→Prop):ztb T (.struct fs) (z + 1) f Kf = zFv T fs[f]? Kf:=by simp only [ztb,zFv,Nat.zero_lt_succ,true_and]
theorem zo3 (o:Nat) (ft:TypeId) (Kf:Nat→TypeId→Prop) (h:0 < (T ft).size):zFv T (some (o,ft)) Kf = Kf o ft:=by simp [zFv,h]
theorem zgP [zah] (fs:List (Nat × TypeId)) (f:Nat) (Kf:Nat→TypeId→Prop):ztb T (.struct fs) 2 f Kf = zFv T fs[f]? Kf:=zeW fs 1 f Kf
theorem zo4 (fr:Bool) (c:List PV) (o:Nat) (A:Prop):zdq rw (.eref fr c o) (kk A) = A:=(rfl)
theorem ztd (f:FuncId) (c:List PV) (A:Prop):zdq rw (.clo f c) (kk A) = A:=(rfl)
def zhm (r:Row) (ver:Nat) (A:Prop):Prop:=r.ver = ver∧r.kind.nd = true∧A
theorem zte (j ver o:Nat) (A:Prop):zdq rw (.ref j ver o) A = zhm (rw j) ver A:=(rfl)
theorem zjL (ver:Nat) (bt:TypeId) (c:List PV) (A:Prop):zhm ⟨ver,.box bt c⟩ ver (kk A) = A:=by simp [zhm,RK.nd,kk]
theorem zo5 (j v o:Nat):zkn (.ref j v o) = true:=(rfl)
theorem zlS (fr:Bool) (c:List PV) (o:Nat):zkn (.eref fr c o) = true:=(rfl)
theorem zo6 (j v o d:Nat):zd9 (.ref j v o) d = .ref j v (o + d):=(rfl)
theorem zlT (fr:Bool) (c:List PV) (o d:Nat):zd9 (.eref fr c o) d = .eref fr c (o + d):=(rfl)
def zCS (kd kd2:TK) (x:PV) (K:PV→Prop):Prop:=match kd,kd2,x with
 | .int _,.int k,.v (.int _ n)=>K (.v (.int k (k.wrap n)))
 | .str,.str,.v (.string s)=>K (.v (.string s))
 | _,_,_=>False
theorem ztf {a b:TypeId} {k:IntKind} (n:Int) (h1:(T a).k.isInt = true) (h2:(T b).k.isInt = true) (h3:0 < (T a).size) (h4:0 < (T b).size):zfL T rw a b (.v (.int k n)) Kp = zCS (T a).k (T b).k (.v (.int k n)) Kp:=by
 revert h1 h2
 simp only [zfL,zCS,h3,h4,true_and]
 cases (T a).k <;> simp [TK.isInt]
 cases (T b).k <;> simp [TK.isInt]
theorem zo7 (k1 k2 k:IntKind) (n:Int):zCS (.int k1) (.int k2) (.v (.int k n)) Kp = Kp (.v (.int k2 (k2.wrap n))):=(rfl)
theorem ztg {a b:TypeId} (n:ByteArray) (h1:(T a).k = .str) (h2:(T b).k = .str) (h3:0 < (T a).size) (h4:0 < (T b).size):zfL T rw a b (.v (.string n)) Kp = Kp (.v (.string n)):=by
 simp [zfL,h1,h2,h3,h4]
theorem zo8 {t:TypeId} {k:IntKind} (b:ByteArray) (n:Int) (h0:(T t).k = .str) (h1:0 < (T t).size):zsK T t (.v (.string b)) (.v (.int k n)) Kp = (0 ≤ n∧n.toNat < b.size∧Kp (.v (.int .u8 ((b.data.toList.getD n.toNat 0).toNat:Int)))):=by
 simp [zsK,h0,h1]
theorem zlU (k k':IntKind) (a b:Int):zcI true (.v (.int k a)) (.v (.int k' b)) Kp = Kp (.v (.int k (if b > a then b else a))):=(rfl)
theorem zlV (k k':IntKind) (a b:Int):zcI false (.v (.int k a)) (.v (.int k' b)) Kp = Kp (.v (.int k (if b < a then b else a))):=(rfl)
def zq2 (p:PV) (K:Int→Prop):Prop:=match p with | .v (.int _ n)=>K n | _=>False
theorem zth (k:IntKind) (n:Int) (Ki:Int→Prop):zq2 (.v (.int k n)) Ki = Ki n:=(rfl)
def zmX (T:Tab) (rw:Nat→Row) (ev:Operand→PV) (kd:TK) (z:Nat) (x:PV) (lo hi mx:Option Operand) (K:PV→Prop):Prop :=
 0 < z∧match kd with
 | .str=>mx = none∧(match x with
  | .v (.string s)=>zkS ev lo 0 fun l=>zkS ev hi s.size fun h=>0 ≤ l∧l ≤ h∧h ≤ s.size∧K (.v (.string (s.extract l.toNat h.toNat)))
  | _=>False)
 | .sli e=>zgf rw x fun fr sz c=>0 < (T e).size∧sz = (T e).size ∧
  zkS ev lo 0 fun l=>zkS ev hi ((c.length / sz:Nat):Int) fun h=>zkS ev mx ((c.length / sz:Nat):Int) fun m=>0 ≤ l∧l ≤ h∧h ≤ m∧m ≤ ((c.length / sz:Nat):Int)∧(hi = none→mx = none) ∧
   K (.sl fr sz ((c.take (h.toNat * sz)).drop (l.toNat * sz)))
 | _=>False
theorem zB6 (t:TypeId) (ev:Operand→PV) (x:PV) (lo hi mx:Option Operand):zbG T rw ev t x lo hi mx Kp = zmX T rw ev (T t).k (T t).size x lo hi mx Kp:=(rfl)
theorem zti {e:TypeId} (fr:Bool) (c:List PV) (x:Operand) (h2:(T e).size = 1):zmX T rw s.ev (.sli e) 1 (.sl fr 1 c) (some x) none none Kp = zq2 (s.ev x) (kk fun l=>0 ≤ l∧l ≤ (c.length:Int)∧Kp (.sl fr 1 (c.drop l.toNat))):=by
 simp only [zmX,zgf,zkS,h2,zq2,kk]
 cases s.ev x <;> simp
 rename_i v
 cases v <;> simp
theorem ztj {e:TypeId} (fr:Bool) (c:List PV) (x:Operand) (h2:(T e).size = 1):zmX T rw s.ev (.sli e) 1 (.sl fr 1 c) none (some x) none Kp = zq2 (s.ev x) (kk fun l=>0 ≤ l∧l ≤ (c.length:Int)∧Kp (.sl fr 1 (c.take l.toNat))):=by
 simp only [zmX,zgf,zkS,h2,zq2,kk]
 cases s.ev x <;> simp
 rename_i v
 cases v <;> simp
theorem ztk {e:TypeId} (fr:Bool) (c:List PV) (x y:Operand) (h2:(T e).size = 1):zmX T rw s.ev (.sli e) 1 (.sl fr 1 c) (some x) (some y) none Kp = zq2 (s.ev x) (kk fun l=>zq2 (s.ev y) (kk fun h=>0 ≤ l∧l ≤ h∧h ≤ (c.length:Int)∧Kp (.sl fr 1 ((c.take h.toNat).drop l.toNat)))):=by
 simp only [zmX,zgf,zkS,h2,zq2,kk]
 cases s.ev x <;> simp
 rename_i v
 cases v <;> simp
 rename_i q n
 cases s.ev y <;> try simp
 rename_i v
 cases v <;> try simp
theorem zxo {e:TypeId} (fr:Bool) (c:List PV) (h2:(T e).size = 1):zmX T rw s.ev (.sli e) 1 (.sl fr 1 c) none none none Kp = Kp (.sl fr 1 c):=by
 simp only [zmX,zgf,zkS,h2]
 simp
theorem ztl (b:ByteArray) (x:Operand):zmX T rw s.ev .str 1 (.v (.string b)) (some x) none none Kp = zq2 (s.ev x) (kk fun l=>0 ≤ l∧l ≤ (b.size:Int)∧Kp (.v (.string (b.extract l.toNat b.size)))):=by
 simp only [zmX,zkS,zq2,kk]
 cases s.ev x <;> simp
 rename_i v
 cases v <;> simp
theorem ztm (b:ByteArray) (x:Operand):zmX T rw s.ev .str 1 (.v (.string b)) none (some x) none Kp = zq2 (s.ev x) (kk fun h=>0 ≤ h∧h ≤ (b.size:Int)∧Kp (.v (.string (b.extract 0 h.toNat)))):=by
 simp only [zmX,zkS,zq2,kk]
 cases s.ev x <;> simp
 rename_i v
 cases v <;> simp
theorem ztn (b:ByteArray) (x y:Operand):zmX T rw s.ev .str 1 (.v (.string b)) (some x) (some y) none Kp = zq2 (s.ev x) (kk fun l=>zq2 (s.ev y) (kk fun h=>0 ≤ l∧l ≤ h∧h ≤ (b.size:Int)∧Kp (.v (.string (b.extract l.toNat h.toNat))))):=by
 simp only [zmX,zkS,zq2,kk]
 cases s.ev x <;> simp
 rename_i v
 cases v <;> simp
 rename_i q n
 cases s.ev y <;> try simp
 rename_i v
 cases v <;> try simp
def zto (T:Tab) (r:Row) (k ver:Nat) (ev:Operand→PV) (e z:Nat) (rw:Nat→Row) (lo hi mx:Option Operand) (K:PV→Prop):Prop :=
 k < 1000000∧r.ver = ver∧match r.kind with | .sli _ sz true c=>zmX T rw ev (.sli e) z (.sl true sz c) lo hi mx K | _=>False
theorem zxp (e z k ver:Nat) (lo hi mx:Option Operand):zmX T rw s.ev (.sli e) z (.own k ver) lo hi mx Kp = zto T (rw k) k ver s.ev e z rw lo hi mx Kp:=by
 have el:(k < lent) = (k < 1000000):=rfl
 simp only [zmX,zgf,zto,el]
 cases (rw k).kind with
 | sli e' sz fz c =>
   cases fz <;> simp
   refine ⟨fun ⟨a,b,c,d,h⟩=>⟨b,c,a,d,h⟩,fun ⟨b,c,a,d,h⟩=>⟨a,b,c,d,h⟩⟩
 | _=>simp
theorem zlW (e z k ver e' sz:Nat) (rw':Nat→Row) (c:List PV) (lo hi mx:Option Operand):zto T ⟨ver,.sli e' sz true c⟩ k ver s.ev e z rw' lo hi mx Kp = (k < 1000000∧zmX T rw' s.ev (.sli e) z (.sl true sz c) lo hi mx Kp):=by simp [zto]
theorem zxq {Kf:List Nat→PV→Prop} (t:TypeId) (fr:Bool) (z:Nat) (c:List PV) (lo hi mx:Option Operand):zD5 T s t (.sl fr z c) lo hi mx (kk Kf) = zbG T s.rw s.ev t (.sl fr z c) lo hi mx (kk fun p=>Kf [] p):=(rfl)
theorem zB7 {Kf:List Nat→PV→Prop} (t:TypeId) (x:Value) (lo hi mx:Option Operand):zD5 T s t (.v x) lo hi mx (kk Kf) = zbG T s.rw s.ev t (.v x) lo hi mx (kk fun p=>Kf [] p):=(rfl)
def zxr (T:Tab) (s:St) (t:TypeId) (r:Row) (k ver:Nat) (lo hi mx:Option Operand) (K:List Nat→PV→Prop):Prop :=
 match r.kind with
 | .sli _ _ false _=>zbG T (s.freeze [k]).rw s.ev t (.own k ver) lo hi mx (kk fun p=>K [k] p)
 | _=>zbG T s.rw s.ev t (.own k ver) lo hi mx (kk fun p=>K [] p)
theorem ztp {Kf:List Nat→PV→Prop} (t:TypeId) (k ver:Nat) (lo hi mx:Option Operand):zD5 T s t (.own k ver) lo hi mx (kk Kf) = zxr T s t (s.rw k) k ver lo hi mx (kk Kf):=(rfl)
theorem zjM {Kf:List Nat→PV→Prop} (t:TypeId) (v e z:Nat) (c:List PV) (k ver:Nat) (lo hi mx:Option Operand):zxr T s t ⟨v,.sli e z false c⟩ k ver lo hi mx (kk Kf) = zbG T (s.freeze [k]).rw s.ev t (.own k ver) lo hi mx (kk fun p=>Kf [k] p):=(rfl)
theorem zo9 {Kf:List Nat→PV→Prop} (t:TypeId) (v e z:Nat) (c:List PV) (k ver:Nat) (lo hi mx:Option Operand):zxr T s t ⟨v,.sli e z true c⟩ k ver lo hi mx (kk Kf) = zbG T s.rw s.ev t (.own k ver) lo hi mx (kk fun p=>Kf [] p):=(rfl)
theorem zxs {Kc:List PV→Prop} (x:Value) (h:x.oneCell' = true):za6 rw (.v x) Kc = Kc [.v x]:=by simp [za6,h]
theorem ztq {Kc:List PV→Prop} (c:List PV):za6 rw (.ag c) Kc = Kc c:=(rfl)
theorem ztr {Kc:List PV→Prop} (fr:Bool) (sz:Nat) (c:List PV):za6 rw (.sl fr sz c) Kc = Kc [.sl fr sz c]:=(rfl)
theorem zpa {Kc:List PV→Prop} (f:FuncId) (c:List PV):za6 rw (.clo f c) Kc = Kc [.clo f c]:=(rfl)
def zjN (r:Row) (ver:Nat) (A:Prop):Prop:=r.ver = ver∧r.kind.slice = true∧A
theorem zpb {Kc:List PV→Prop} (j ver:Nat):za6 rw (.own j ver) Kc = zjN (rw j) ver (kk (Kc [.own j ver])):=(rfl)
theorem zlX (ver e sz:Nat) (fz:Bool) (c:List PV) (A:Prop):zjN ⟨ver,.sli e sz fz c⟩ ver (kk A) = A:=by simp [zjN,RK.slice,kk]
theorem zlY (ver e:Nat) (c:List PV) (A:Prop):zjN ⟨ver,.tab e c⟩ ver (kk A) = A:=by simp [zjN,RK.slice,kk]
theorem zpc {Kc:List PV→Prop} (j ver o:Nat):za6 rw (.ref j ver o) Kc = zhm (rw j) ver (kk (Kc [.ref j ver o])):=(rfl)
theorem zB8 {Kc:List PV→List Nat→Prop} (x:Value) (h:x.oneCell' = true):zcT rw (.v x) Kc = Kc [.v x] []:=by simp [zcT,h]
theorem zxt {Kc:List PV→List Nat→Prop} (sz:Nat) (c:List PV):zcT rw (.sl true sz c) Kc = Kc [.sl false sz c] []:=by simp [zcT]
theorem zxu {Kc:List PV→List Nat→Prop} (c:List PV):zcT rw (.ag c) Kc = ((∀ x ∈ c,isV x = true)∧Kc c []):=(rfl)
def zq3 (r:Row) (k ver:Nat) (K:List PV→List Nat→Prop):Prop:=r.ver = ver∧k < lent∧(match r.kind with | .nil=>K [.sl false 1 []] [] | .sli _ sz _ c=>K [.sl false sz c] [k] | _=>False)
theorem zts {Kc:List PV→List Nat→Prop} (j ver:Nat):zcT rw (.own j ver) Kc = zq3 (rw j) j ver Kc:=(rfl)
theorem zjO {Kc:List PV→List Nat→Prop} (j ver e sz:Nat) (fz:Bool) (c:List PV) (h:j < lent):zq3 ⟨ver,.sli e sz fz c⟩ j ver Kc = Kc [.sl false sz c] [j]:=by simp [zq3,h]
def ztt (rw:Nat→Row) (l:List PV):Prop:=∀ p ∈ l,zkR rw p
theorem zxv (rw:Nat→Row) (l:List PV):(∀ p ∈ l,zkR rw p) = ztt rw l:=(rfl)
theorem ztu (rw:Nat→Row):ztt rw [] = True:=by simp [ztt]
theorem zpd (rw:Nat→Row) (p:PV) (l:List PV):ztt rw (p :: l) = (zkR rw p∧ztt rw l):=by simp [ztt]
def zeX (s:St) (z j ver off:Nat) (r:Row) (x:PV) (K:St→Prop):Prop:=0 < z∧r.ver = ver∧match r.kind with
 | .box bt c=>za6 s.rw x fun new=>new.length = z∧off + new.length ≤ c.length∧ztt s.rw new∧K (s.row j ⟨ver,.box bt (spl c off new)⟩)
 | .sli e sz false c=>zcT s.rw x fun new fz=>new.length = z∧off + new.length ≤ c.length∧j ∉ fz∧K ((s.freeze fz).row j ⟨ver,.sli e sz false (spl c off new)⟩)
 | .tab e c=>za6 s.rw x fun new=>new.length = z∧off + new.length ≤ c.length∧ztt s.rw new∧K (s.row j ⟨ver,.tab e (spl c off new)⟩)
 | _=>False
theorem zpe (j ver off e:Nat) (c:List PV) (x:PV):zeX s 1 j ver off ⟨ver,.tab e c⟩ x K = za6 s.rw x (kk fun new=>new.length = 1∧off + new.length ≤ c.length∧ztt s.rw new∧K (s.row j ⟨ver,.tab e (spl c off new)⟩)):=by
 simp only [zeX,Nat.one_pos,true_and,kk]
theorem ztv (t:TypeId) (j ver off:Nat) (x:PV):zp3 T s t (.ref j ver off) x K = zeX s (T t).size j ver off (s.rw j) x K:=(rfl)
theorem zjP [zah]:s.freeze [] = s:=St.freeze_nil s
theorem zpf (j ver off e sz:Nat) (c:List PV) (x:PV):zeX s 1 j ver off ⟨ver,.sli e sz false c⟩ x K = zcT s.rw x (kk fun new fz=>new.length = 1∧off + new.length ≤ c.length∧j ∉ fz∧K ((s.freeze fz).row j ⟨ver,.sli e sz false (spl c off new)⟩)):=by
 simp only [zeX,Nat.one_pos,true_and,kk]
theorem zgQ (z j ver off:Nat) (bt:TypeId) (c:List PV) (x:PV):zeX s (z + 1) j ver off ⟨ver,.box bt c⟩ x K = za6 s.rw x (kk fun new=>new.length = z + 1∧off + new.length ≤ c.length∧ztt s.rw new∧K (s.row j ⟨ver,.box bt (spl c off new)⟩)):=by
 simp only [zeX,Nat.zero_lt_succ,true_and,kk]
theorem zlZ [zah] (j ver off:Nat) (bt:TypeId) (c:List PV) (x:PV):zeX s 1 j ver off ⟨ver,.box bt c⟩ x K = za6 s.rw x (kk fun new=>new.length = 1∧off + new.length ≤ c.length∧ztt s.rw new∧K (s.row j ⟨ver,.box bt (spl c off new)⟩)):=zgQ 0 j ver off bt c x
theorem zl0 [zah] (j ver off:Nat) (bt:TypeId) (c:List PV) (x:PV):zeX s 2 j ver off ⟨ver,.box bt c⟩ x K = za6 s.rw x (kk fun new=>new.length = 2∧off + new.length ≤ c.length∧ztt s.rw new∧K (s.row j ⟨ver,.box bt (spl c off new)⟩)):=zgQ 1 j ver off bt c x
theorem zB9 (rw:Nat→Row) (v:Value):zkR rw (.v v) = (v.oneCell' = true):=(rfl)
theorem zxw (rw:Nat→Row) (fr:Bool) (z:Nat) (c:List PV):zkR rw (.sl fr z c) = True:=(rfl)
theorem zpg (rw:Nat→Row) (fr:Bool) (c:List PV) (o:Nat):zkR rw (.eref fr c o) = True:=(rfl)
theorem ztw (rw:Nat→Row) (f:FuncId) (c:List PV):zkR rw (.clo f c) = True:=(rfl)
theorem ztx (rw:Nat→Row) (j v:Nat):zkR rw (.own j v) = zjN (rw j) v (kk True):=by simp [zkR,zjN,kk]
theorem zty (rw:Nat→Row) (j v o:Nat):zkR rw (.ref j v o) = zhm (rw j) v (kk True):=by simp [zkR,zhm,kk]
theorem zl1 [zah] (j ver off:Nat) (bt:TypeId) (c:List PV) (x:PV):zeX s 3 j ver off ⟨ver,.box bt c⟩ x K = za6 s.rw x (kk fun new=>new.length = 3∧off + new.length ≤ c.length∧ztt s.rw new∧K (s.row j ⟨ver,.box bt (spl c off new)⟩)):=zgQ 2 j ver off bt c x
theorem zl2 [zah] (j ver off:Nat) (bt:TypeId) (c:List PV) (x:PV):zeX s 4 j ver off ⟨ver,.box bt c⟩ x K = za6 s.rw x (kk fun new=>new.length = 4∧off + new.length ≤ c.length∧ztt s.rw new∧K (s.row j ⟨ver,.box bt (spl c off new)⟩)):=zgQ 3 j ver off bt c x
def zjQ (T:Tab) (rw:Nat→Row) (y:PV) (K:List PV→Prop):Prop:=slK rw y fun fr sz news=>sz = 1∧((∀ p ∈ news,isV p = true) ∨ (fr = true∧∀ p ∈ news,zqI p = true))∧K news
def zjR (T:Tab) (s:St) (d j ver e:Nat) (r:Row) (news:List PV) (K:St→Prop):Prop:=r.ver = ver∧match r.kind with
 | .nil=>news.length * (T e).bytes ≤ 140737488355328∧K (zc8 s d j (.sli e 1 false news))
 | .sli e' sz' false c=>e' = e∧sz' = 1∧(c.length + news.length) * (T e).bytes ≤ 140737488355328∧K (zc8 s d j (.sli e 1 false (c ++ news)))
 | _=>False
def zFw (T:Tab) (s:St) (d e:Nat) (x:PV) (news:List PV) (K:St→Prop):Prop:=match x with
 | .v u=>zdX u = true∧news.length * (T e).bytes ≤ 140737488355328∧K (zcU s d (.sli e 1 false news) (fun v=>.own d v))
 | .own j ver=>zjR T s d j ver e (s.rw j) news K
 | _=>False
def zGu (T:Tab) (s:St) (d:Nat) (kd:TK) (z:Nat) (x y:PV) (K:St→Prop):Prop :=
 0 < z∧match kd with
 | .sli e=>0 < (T e).size∧0 < (T e).bytes∧slK s.rw y fun fr sz news=>sz = (T e).size∧((∀ p ∈ news,isV p = true) ∨ (fr = true∧∀ p ∈ news,zqI p = true)) ∧
  (match x with
  | .v u=>zdX u = true∧news.length * (T e).bytes ≤ 140737488355328∧K (zcU s d (.sli e (T e).size false news) (fun v=>.own d v))
  | .own k ver=>(s.rw k).ver = ver∧(match (s.rw k).kind with
   | .nil=>news.length * (T e).bytes ≤ 140737488355328∧K (zc8 s d k (.sli e (T e).size false news))
   | .sli e' sz' false c=>e' = e∧sz' = (T e).size∧(c.length + news.length) * (T e).bytes ≤ 140737488355328∧K (zc8 s d k (.sli e (T e).size false (c ++ news)))
   | _=>False)
  | _=>False)
 | _=>False
theorem append_eq (d:Nat) (t:TypeId) (x y:PV):zkg T s d t t x y K = zGu T s d (T t).k (T t).size x y K:=propext ⟨fun h=>h.2,fun h=>⟨rfl,h⟩⟩
theorem ztz {d e:Nat} (x y:PV) (h2:(T e).size = 1) (h3:0 < (T e).bytes):zGu T s d (.sli e) 1 x y K = zjQ T s.rw y (kk fun news=>zFw T s d e x news (kk K)):=by
 unfold zGu zjQ
 simp only [h2,h3,true_and,kk,Nat.one_pos]
 unfold zFw zjR
 cases x <;> rfl
theorem ztA (d e j ver:Nat) (news:List PV):zFw T s d e (.own j ver) news K = zjR T s d j ver e (s.rw j) news K:=(rfl)
theorem ztB (d e:Nat) (news:List PV):zFw T s d e (.v (.slice none 0 0)) news K = (news.length * (T e).bytes ≤ 140737488355328∧K (zcU s d (.sli e 1 false news) (fun v=>.own d v))):=by simp [zFw,zdX]
theorem zl3 (d j ver e:Nat) (c news:List PV):zjR T s d j ver e ⟨ver,.sli e 1 false c⟩ news K = ((c.length + news.length) * (T e).bytes ≤ 140737488355328∧K (zc8 s d j (.sli e 1 false (c ++ news)))):=by simp [zjR]
theorem zl4 (d j ver e:Nat) (news:List PV):zjR T s d j ver e ⟨ver,.nil⟩ news K = (news.length * (T e).bytes ≤ 140737488355328∧K (zc8 s d j (.sli e 1 false news))):=by simp [zjR]
variable {Kc:List PV→Prop}
theorem zxx (c:List PV) (h:∀ p ∈ c,isV p = true) (fr:Bool):zjQ T rw (.sl fr 1 c) Kc = Kc c:=by
 have e:(∀ p ∈ c,isV p = true) = True:=eq_true h
 simp only [zjQ,slK,e,true_or,true_and]
theorem zxy [zah] (xs:List Int) (fr:Bool):zjQ T rw (.sl fr 1 (iL xs)) Kc = Kc (iL xs):=zxx _ (by simpa using zwg xs) fr
theorem zxz [zah] (k:IntKind) (xs:List Int) (fr:Bool):zjQ T rw (.sl fr 1 (kL k xs)) Kc = Kc (kL k xs):=zxx _ (by simpa using zE1 k xs) fr
theorem zxA [zah] (xs:List ByteArray) (fr:Bool):zjQ T rw (.sl fr 1 (sL xs)) Kc = Kc (sL xs):=zxx _ (by simpa using zBu xs) fr
theorem ztC [zah] (xs:List (List Int)):zjQ T rw (.sl true 1 (iLL xs)) Kc = Kc (iLL xs):=by
 have:∀ p ∈ iLL xs,zqI p = true:=by simpa using zz2 xs
 simp only [zjQ,slK,true_and,true_or,eq_true this,or_true]
def zuS (c:List PV):Prop:=∀ p ∈ c,zqI p = true
def zuT (r:Row) (ver:Nat) (K:List PV→Prop):Prop:=r.ver = ver∧match r.kind with | .nil=>K [] | .sli _ sz _ c=>sz = 1∧zuS c∧K c | _=>False
theorem zph (j ver:Nat):zjQ T rw (.own j ver) Kc = zuT (rw j) ver Kc:=by
 unfold zjQ slK zuT
 dsimp only
 generalize (rw j).kind = kd
 cases kd with
 | sli e sz fz c =>
   dsimp only
   refine propext ⟨fun ⟨a,b,h,d⟩=>⟨a,b,?_,d⟩,fun ⟨a,b,h,d⟩=>⟨a,b,.inr ⟨rfl,h⟩,d⟩⟩
   rcases h with h | h
   ·intro p hp
    have:=h p hp
    cases p <;> simp [isV] at this
    exact this
   ·exact h.2
 | nil=>simp
 | _=>simp
theorem zpi (ver e:Nat) (fz:Bool) (c:List PV):zuT ⟨ver,.sli e 1 fz c⟩ ver Kc = (zuS c∧Kc c):=by simp [zuT]
theorem zpj (ver:Nat):zuT ⟨ver,.nil⟩ ver Kc = Kc []:=by simp [zuT]
theorem ztD:zuS [] = True:=by simp [zuS]
theorem zxB (xs:List Int):zuS (iL xs) = True:=by simp [zuS,iL,zqI,Value.oneCell']
theorem zxC (k:IntKind) (xs:List Int):zuS (kL k xs) = True:=by simp [zuS,kL,zqI,Value.oneCell']
theorem zxD (xs:List ByteArray):zuS (sL xs) = True:=by simp [zuS,sL,zqI,Value.oneCell']
theorem zxE (xs:List Bool):zuS (bL xs) = True:=eq_true fun p hp=>by
 simp only [bL,List.mem_map] at hp
 obtain ⟨x,_,rfl⟩:=hp
 rfl
theorem ztE (xs:List (List Int)):zuS (iLL xs) = True:=by simp [zuS,iLL,zqI]
theorem zpk (j:Nat):[j].Nodup = True:=by simp
theorem zpl (i j:Nat):[i,j].Nodup = (i ≠ j):=by simp
theorem zxF (j:Nat):(j < lent) = (j < 1000000):=(rfl)
theorem zFx (v u:Value) {Kn:List Nat→Prop}:zqH rw (.v v) (.im (.v u)) Kn = (PV.v u = PV.v v∧Kn []):=(rfl)
def zpm (r:Row) (j ver e sz:Nat) (c:List PV) (K:List Nat→Prop):Prop:=j < lent∧r.ver = ver∧(match r.kind with
 | .nil=>c = []∧K []
 | .sli e' sz' false c'=>e' = e∧sz' = sz∧c' = c∧K [j]
 | _=>False)
theorem zxG (j ver e sz:Nat) (c:List PV) {Kn:List Nat→Prop}:zqH rw (.own j ver) (.fr e sz c) Kn = zpm (rw j) j ver e sz c Kn:=(rfl)
theorem zhn (j ver e sz:Nat) (c c':List PV) {Kn:List Nat→Prop} (h:j < lent):zpm ⟨ver,.sli e sz false c'⟩ j ver e sz c Kn = (c' = c∧Kn [j]):=by simp [zpm,h]
theorem ztF {t:Nat} {rv:RV}:zuU T s [.tmp t] rv = zqH s.rw (s.sl t) rv List.Nodup:=(rfl)
theorem zpn {a:Nat} {t:TypeId} {rv:RV}:zuU T s [.cell a t] rv = zqJ s.rw (s.sl a) (kk fun m c off=>ldK T t m c off (kk fun p=>zqH s.rw p rv List.Nodup)):=(rfl)
theorem ztG {r1 r2:ResultVar} {rv:RV}:zuU T s [r1,r2] rv = zvS T s [r1,r2] (kk fun ps=>zqH s.rw (.tup ps) rv List.Nodup):=(rfl)
theorem zl5 {r1 r2 r3:ResultVar} {rv:RV}:zuU T s [r1,r2,r3] rv = zvS T s [r1,r2,r3] (kk fun ps=>zqH s.rw (.tup ps) rv List.Nodup):=(rfl)
theorem ztH (Kr:List PV→Prop):zvS T s [] (kk Kr) = Kr []:=(rfl)
theorem ztI (t:Nat) (rs:List ResultVar) (Kr:List PV→Prop):zvS T s (.tmp t :: rs) (kk Kr) = evK (s.sl t) (kk fun p=>zvS T s rs (kk fun ps=>Kr (p :: ps))):=(rfl)
theorem zpo (a:Nat) (t:TypeId) (rs:List ResultVar) (Kr:List PV→Prop):zvS T s (.cell a t :: rs) (kk Kr) = zqJ s.rw (s.sl a) (kk fun m c off=>ldK T t m c off (kk fun p=>zvS T s rs (kk fun ps=>Kr (p :: ps)))):=(rfl)
theorem ztJ (e sz:Nat) (c:List PV) {Kn:List Nat→Prop}:zqH rw (.v (.slice none 0 0)) (.fr e sz c) Kn = (c = []∧Kn []):=by simp [zqH,zm3,zdX]
theorem ztK (e sz:Nat) (c:List PV) {Kn:List Nat→Prop}:zxS rw (.v (.slice none 0 0)) (.fr e sz c) Kn = (c = []∧Kn []):=by simp [zxS,zm3,zdX]
theorem ztL (e sz:Nat) (c:List PV) {Kn:List Nat→Prop}:zm3 rw (.v (.slice none 0 0)) (.fr e sz c) Kn = (c = []∧Kn []):=by simp [zm3,zdX]
theorem zl6 [zah] (d e sz:Nat) (y:Value) (c:List PV):zal s d (.tup [.ag [.fr e sz c],.im (.v y)]) = (s.row d ⟨(s.rw d).ver + 1,.sli e sz false c⟩).put (some d) (.tup [.ag [.own d ((s.rw d).ver + 1)],.v y]):=by
 unfold zal
 simp [zbW,zcA,leaves,zaC,za5,zb0,zbS,zbq,zak,St.row,zhx]
 rfl
theorem zl7 [zah] (d e sz:Nat) (x y:Value) (c:List PV):zal s d (.tup [.ag [.im (.v x),.fr e sz c],.im (.v y)]) = (s.row d ⟨(s.rw d).ver + 1,.sli e sz false c⟩).put (some d) (.tup [.ag [.v x,.own d ((s.rw d).ver + 1)],.v y]):=by
 unfold zal
 simp [zbW,zcA,leaves,zaC,za5,zb0,zbS,zbq,zak,St.row,zhx]
 rfl
theorem zpp [zah] (d e sz:Nat) (y:Value) (c:List PV):zal s d (.tup [.ag [.fr e sz c],.im (.v y)]) = (s.row d ⟨(s.rw d).ver + 1,.sli e sz false c⟩).put (some d) (.tup [.ag [.own d ((s.rw d).ver + 1)],.v y]):=by
 unfold zal
 simp [zbW,zcA,leaves,zaC,za5,zb0,zbS,zbq,zak,St.row,zhx]
 rfl
theorem zc4 (d:Nat) (v:Value):zal s d (.im (.v v)) = s.put (some d) (.v v):=by
 unfold zal
 simp [leaves,zaC,za5,zbS,zhx]
theorem zz8 [zah] {f:FuncId} {raw lent:List PV} {k d:Nat} {x:Value} {r:Row} {Ke:Ent→St→Prop} {Ka:RV→Prop} {us:Dm s} {u:Dm Ke} (rd:List Nat) (h:∀ s':St,s'.rw k = s.rw k→(∀ a ∈ rd,s'.rw a = s.rw a)→∀ K':St→Prop,K' ((s'.row k r).put (some d) (.v x))→askG P s' f raw (some d) K') (hd:d % 1000 ≠ k % 1000)
 (hk:Ke ⟨rd,.ids [d,k]⟩ ((s.row k r).put (some d) (.v x))):zjq P f lent Ka (zFk P f raw d (kk s us) (kk Ke u)) :=
 zz7 (x:=.im (.v x)) (r:=r) rd (fun s' h1 h2 K' hk'=>h s' h1 h2 K' (by rw [zc4] at hk';exact hk')) hd (by rw [zc4];exact hk)
theorem ziO (d e sz:Nat) (c:List PV):zal s d (.fr e sz c) = (s.row d ⟨(s.rw d).ver + 1,.sli e sz false c⟩).put (some d) (.own d ((s.rw d).ver + 1)):=by
 unfold zal
 simp [leaves,zaC,za5,zbS,zak,St.row]
 rfl
theorem zpq [zah] (d e sz:Nat) (c:List PV):zal s d (.ag [.fr e sz c]) = (s.row d ⟨(s.rw d).ver + 1,.sli e sz false c⟩).put (some d) (.ag [.own d ((s.rw d).ver + 1)]):=by
 unfold zal
 simp [zcA,leaves,zaC,za5,zb0,zbq,zbS,zak,St.row]
 rfl
theorem zpr [zah] (d e sz:Nat) (x:Value) (c:List PV):zal s d (.ag [.im (.v x),.fr e sz c]) = (s.row d ⟨(s.rw d).ver + 1,.sli e sz false c⟩).put (some d) (.ag [.v x,.own d ((s.rw d).ver + 1)]):=by
 unfold zal
 simp [zcA,leaves,zaC,za5,zb0,zbq,zbS,zak,St.row,zhx]
 rfl
theorem zps [zah] (d e sz e2 sz2:Nat) (x y:Value) (c c2:List PV):zal s d (.ag [.im (.v x),.fr e sz c,.im (.v y),.fr e2 sz2 c2]) =
 ((s.row (d + 1000) ⟨(s.rw (d + 1000)).ver + 1,.sli e2 sz2 false c2⟩).row d ⟨(s.rw d).ver + 1,.sli e sz false c⟩).put (some d) (.ag [.v x,.own d ((s.rw d).ver + 1),.v y,.own (d + 1000) ((s.rw (d + 1000)).ver + 1)]):=by
 unfold zal
 simp [zcA,leaves,zaC,za5,zb0,zbq,zbS,zak,St.row,zhx]
 rfl
theorem zpt [zah] (d:Nat) (x y:Value):zal s d (.tup [.im (.v x),.im (.v y)]) = s.put (some d) (.tup [.v x,.v y]):=by
 unfold zal
 simp [zbW,leaves,zaC,za5,zb0,zbq,zbS,zak,St.row,zhx]
theorem zpu [zah] (d e sz:Nat) (c:List PV) (y:Value):zal s d (.tup [.fr e sz c,.im (.v y)]) = (s.row d ⟨(s.rw d).ver + 1,.sli e sz false c⟩).put (some d) (.tup [.own d ((s.rw d).ver + 1),.v y]):=by
 unfold zal
 simp [zbW,leaves,zaC,za5,zb0,zbq,zbS,zak,St.row,zhx]
 rfl
theorem imm_ag [zah] (l:List RV):(RV.ag l).imm = .ag (l.map RV.imm):=RV.imm_ag l
theorem imm_tup [zah] (l:List RV):(RV.tup l).imm = .tup (l.map RV.imm):=RV.imm_tup l
theorem zxH (ps:List PV) (l:List RV) {Kn:List Nat→Prop}:zqH rw (.ag ps) (.ag l) Kn = zvT (zxS rw) ps l Kn:=(rfl)
theorem ztM (ps:List PV) (l:List RV) {Kn:List Nat→Prop}:zqH rw (.tup ps) (.tup l) Kn = zvT (zxS rw) ps l Kn:=(rfl)
theorem zxI (ps:List PV) (l:List RV) {Kn:List Nat→Prop}:zxS rw (.ag ps) (.ag l) Kn = zvT (zm3 rw) ps l Kn:=(rfl)
theorem ztN (f:PV→RV→(List Nat→Prop)→Prop) {Kn:List Nat→Prop}:zvT f [] [] Kn = Kn []:=(rfl)
theorem zpv (f:PV→RV→(List Nat→Prop)→Prop) (p:PV) (ps:List PV) (r:RV) (rs:List RV) {Kn:List Nat→Prop}:zvT f (p :: ps) (r :: rs) Kn = f p r (kk fun a=>zvT f ps rs (kk fun b=>Kn (a ++ b))):=(rfl)
theorem zCa (v u:Value) {Kn:List Nat→Prop}:zxS rw (.v v) (.im (.v u)) Kn = (PV.v u = PV.v v∧Kn []):=(rfl)
theorem zl8 (e e2:Nat) (rows:List (List PV)) {Kn:List Nat→Prop}:zm3 rw (.v (.slice none 0 0)) (.tb e e2 rows) (kk Kn) = (rows = []∧Kn []):=by simp [zm3,zdX,kk]
theorem zCb (v u:Value) {Kn:List Nat→Prop}:zm3 rw (.v v) (.im (.v u)) Kn = (PV.v u = PV.v v∧Kn []):=(rfl)
theorem ztO (j ver e sz:Nat) (c:List PV) {Kn:List Nat→Prop}:zxS rw (.own j ver) (.fr e sz c) Kn = zpm (rw j) j ver e sz c Kn:=(rfl)
theorem ztP (j ver e sz:Nat) (c:List PV) {Kn:List Nat→Prop}:zm3 rw (.own j ver) (.fr e sz c) Kn = zpm (rw j) j ver e sz c Kn:=(rfl)
theorem zCc (v:Value):(RV.im (.v v)).imm = .v v:=by simp [RV.imm,zhx]
theorem zCd (e sz:Nat) (c:List PV):(RV.fr e sz c).imm = .sl true sz c:=by simp [RV.imm]
theorem ztQ (rw:Nat→Row) (n:Nat) (k:IntKind) (x:Int):zcx rw (n + 1) (.v (.int k x)) = .v (.int k x):=(rfl)
theorem zpw (rw:Nat→Row) (n:Nat) (x:Bool):zcx rw (n + 1) (.v (.bool x)) = .v (.bool x):=(rfl)
theorem zjS (rw:Nat→Row) (n:Nat) (x:ByteArray):zcx rw (n + 1) (.v (.string x)) = .v (.string x):=(rfl)
theorem ztR (rw:Nat→Row) (n:Nat):zcx rw (n + 1) (.v (.slice none 0 0)) = .sl false 1 []:=(rfl)
theorem zxJ (rw:Nat→Row) (n:Nat) (fr:Bool) (sz:Nat) (c:List PV):zcx rw (n + 1) (.sl fr sz c) = .sl false sz c:=(rfl)
theorem zxK (rw:Nat→Row) (n:Nat) (c:List PV):zcx rw (n + 1) (.ag c) = .ag (c.map (zcx rw n)):=(rfl)
theorem zpx (rw:Nat→Row) (n:Nat) (fr:Bool) (c:List PV) (o:Nat):zcx rw (n + 1) (.eref fr c o) = .eref false c o:=(rfl)
def zjT (rw:Nat→Row) (n:Nat) (r:Row) (ver off:Nat):PV:=if r.ver = ver then (match r.kind with | .box _ c=>.eref false (c.map (zcx rw n)) off | .sli _ _ _ c=>.eref false c off | _=>.junk) else .junk
theorem ztS (rw:Nat→Row) (n j ver off:Nat):zcx rw (n + 1) (.ref j ver off) = zjT rw n (rw j) ver off:=(rfl)
theorem zjU (rw:Nat→Row) (n ver off:Nat) (t:TypeId) (c:List PV):zjT rw n ⟨ver,.box t c⟩ ver off = .eref false (c.map (zcx rw n)) off:=by simp [zjT]
theorem zjV (rw:Nat→Row) (n ver off e z:Nat) (fz:Bool) (c:List PV):zjT rw n ⟨ver,.sli e z fz c⟩ ver off = .eref false c off:=by simp [zjT]
theorem ztT (rw:Nat→Row) (n:Nat) (f:FuncId) (c:List PV):zcx rw (n + 1) (.clo f c) = .clo f (c.map (zcx rw n)):=(rfl)
def zgc (rw:Nat→Row) (n:Nat) (r:Row) (ver:Nat):PV:=if r.ver = ver then (match r.kind with | .nil=>.sl false 1 [] | .sli _ sz _ c=>.sl false sz c | .tab _ c=>.sl false 1 (c.map (zk5 rw)) | _=>.junk) else .junk
theorem ztU (rw:Nat→Row) (n j ver:Nat):zcx rw (n + 1) (.own j ver) = zgc rw n (rw j) ver:=(rfl)
theorem zjW (rw:Nat→Row) (n:Nat) (ver e:Nat) (c:List PV):zgc rw n ⟨ver,.tab e c⟩ ver = .sl false 1 (c.map (zk5 rw)):=by simp [zgc]
theorem zjX (rw:Nat→Row) (n:Nat) (ver e sz:Nat) (fz:Bool) (c:List PV):zgc rw n ⟨ver,.sli e sz fz c⟩ ver = .sl false sz c:=by simp [zgc]
theorem zjY (rw:Nat→Row) (n:Nat) (ver:Nat):zgc rw n ⟨ver,.nil⟩ ver = .sl false 1 []:=by simp [zgc]
end
def zxL:PV→Prop | .sl _ sz c=>c.length ≤ 9223372036854775807 * sz | _=>True
def zjZ:PV→Prop | .sl _ sz c=>c.length ≤ 9223372036854775807 * sz∧∀ p ∈ c,zxL p | .ag c=>∀ p ∈ c,zxL p | .eref _ c _=>∀ p ∈ c,zxL p | _=>True
def zmY:PV→Prop | .sl _ sz c=>c.length ≤ 9223372036854775807 * sz∧∀ p ∈ c,zjZ p | .ag c=>∀ p ∈ c,zjZ p | .eref _ c _=>∀ p ∈ c,zjZ p | .clo _ c=>∀ p ∈ c,zjZ p | _=>True
def zz9:List PV→Prop | []=>True | p :: ps=>zmY p∧zz9 ps
theorem zmZ {w:World} {E:Env} {lo:Nat} {p:PV} {x:Value} (h:Rep w E lo p x):zxL p:=by
 cases h <;> try trivial
 next sz len cap cells a cs hl hc hm hr hh =>
  show cells.length ≤ 9223372036854775807 * sz
  rw [hl]
  exact Nat.mul_le_mul_right _ (Nat.le_trans hc hm)
theorem ziP [zah] {w:World} {E:Env} {lo:Nat} {p:PV} {x:Value} (h:Rep w E lo p x):zjZ p:=by
 cases h <;> try trivial
 case sl fr sz len cap cells a cs hl hc hm hr hh =>
  refine ⟨?_,fun p hp=>?_⟩
  ·rw [hl];exact Nat.mul_le_mul_right _ (Nat.le_trans hc hm)
  ·obtain ⟨i,hi,rfl⟩:=List.getElem_of_mem hp;exact zmZ (hh i hi)
 case eref fr cells off b o cs hr hh=>intro p hp;obtain ⟨i,hi,rfl⟩:=List.getElem_of_mem hp;exact zmZ (hh i hi)
 case ag cells vs hl hh=>intro p hp;obtain ⟨i,hi,rfl⟩:=List.getElem_of_mem hp;exact zmZ (hh i hi (by omega))
theorem zAa [zah] {w:World} {E:Env} {lo:Nat} {p:PV} {x:Value} (h:Rep w E lo p x):zmY p:=by
 cases h <;> try trivial
 case sl fr sz len cap cells a cs hl hc hm hr hh =>
  refine ⟨?_,fun p hp=>?_⟩
  ·rw [hl];exact Nat.mul_le_mul_right _ (Nat.le_trans hc hm)
  ·obtain ⟨i,hi,rfl⟩:=List.getElem_of_mem hp;exact ziP (hh i hi)
 case eref fr cells off b o cs hr hh=>intro p hp;obtain ⟨i,hi,rfl⟩:=List.getElem_of_mem hp;exact ziP (hh i hi)
 case ag cells vs hl hh=>intro p hp;obtain ⟨i,hi,rfl⟩:=List.getElem_of_mem hp;exact ziP (hh i hi (by omega))
 case clo f cells vs hl hh=>intro p hp;obtain ⟨i,hi,rfl⟩:=List.getElem_of_mem hp;exact ziP (hh i hi (by omega))
theorem zxM [zah] {w:World} {E:Env} {lo:Nat} {ps:List PV} {vs:List Value} (h:zbv w E lo ps vs):zz9 ps:=by
 have:∀ p ∈ ps,zmY p:=by
  intro p hp
  obtain ⟨i,hi,rfl⟩:=List.getElem_of_mem hp
  exact zAa (h.2 i hi (by rw [← h.1];exact hi))
 clear h
 induction ps with
 | nil=>trivial
 | cons p ps ih=>exact ⟨this p (by simp),ih fun q hq=>this q (by simp [hq])⟩
theorem zbD:zz9 [] = True:=(rfl)
theorem zbk (p:PV) (ps:List PV):zz9 (p :: ps) = (zmY p∧zz9 ps):=(rfl)
theorem zeh (x:Value):zmY (.v x) = True:=(rfl)
theorem zdW (x:Value):zjZ (.v x) = True:=(rfl)
theorem zcO (fr:Bool) (xs:List Int):zjZ (.sl fr 1 (iL xs)) = (xs.length ≤ 9223372036854775807):=by simp [zjZ,zxL,iL]
theorem zc5 (fr:Bool) (xs:List Int):zmY (.sl fr 1 (iL xs)) = (xs.length ≤ 9223372036854775807):=by simp [zmY,zjZ,iL]
theorem zcf (x y:PV):zmY (.ag [x,y]) = (zjZ x∧zjZ y):=by simp [zmY]
theorem AC.go [zah] {f:FuncId} {fn:Func} {c:Code} {rs:List ResultVar} {args:List PV} {rv:RV} (hT:T.Ok P) (hm:P.follows .mixedOrders = true) (hf:P.funcs[f]? = some fn) (hname:(fn.name == "runtime.NumGoroutine") = false)
 (hb:fn.body = some c) (hr:fn.results.toList = rs) (hfit:(fits fn.ntmps c && decide (args.length ≤ fn.ntmps) && decide (fn.results.toList.length ≤ 4)) = true) (h:zz9 args→cwp P T c (zGf T rs rv) (St.init args)):AC P f args rv:=by
 subst hr
 refine ⟨⟨fn,hf,hname,by rw [hb];rfl⟩,fun w vals hphi hv=>?_⟩
 exact (AC.of hT hm hf hname hb hfit (h (zxM hv))).2 w vals hphi hv
theorem AM.go [zah] {f:FuncId} {fn:Func} {c:Code} {rs:List ResultVar} {args:List PV} {ins:List LR} {outs:List (List PV)} {x:Value} (hT:T.Ok P) (hm:P.follows .mixedOrders = true) (hf:P.funcs[f]? = some fn) (hname:(fn.name == "runtime.NumGoroutine") = false)
 (hb:fn.body = some c) (hr:fn.results.toList = rs) (hfit:(fits fn.ntmps c && decide (args.length ≤ fn.ntmps) && decide (fn.results.toList.length ≤ 4)) = true) (hi:∀ r ∈ ins,zco r.c) (ho:∀ c ∈ outs,zco c) (hlen:outs.length = ins.length)
 (h:(∀ r ∈ ins,r.c.length ≤ 9223372036854775807 * r.sz)→cwp P T c (zGe T rs ins outs x) (St.initM args ins)):AM P f args ins outs x:=by
 subst hr
 exact AM.of hT hm hf hname hb hfit hi ho hlen h
theorem zdF [zah] (xs:List Int):zco (iL xs):=by have:=zwg xs;unfold zco;rw [this];trivial
theorem zAb [zah] (xs:List ByteArray):zco (sL xs):=by have:=zBu xs;unfold zco;rw [this];trivial
theorem ziQ (args:List PV) (ins:List LR) (i:Nat):(St.initM args ins).sl i = args.getD i .junk:=(rfl)
theorem ziR (args:List PV) (ins:List LR) (i:Nat):(St.initM args ins).rw i = inR ins i:=(rfl)
theorem ztV (ins:List LR) (k:Nat) (h:k < 1000000):inR ins k = ⟨0,.dead⟩:=by
 unfold inR;rw [if_neg (by show ¬ (1000000 ≤ k);omega)]
theorem zAc [zah] (e sz:Nat) (c:List PV) (l:List LR):inR (⟨e,sz,c⟩ :: l) 1000000 = ⟨1,.sli e sz false c⟩:=zpZ (ins:=⟨e,sz,c⟩ :: l) (i:=0) rfl
theorem zAd [zah] (r:LR) (e sz:Nat) (c:List PV) (l:List LR):inR (r :: ⟨e,sz,c⟩ :: l) 1000001 = ⟨1,.sli e sz false c⟩:=zpZ (ins:=r :: ⟨e,sz,c⟩ :: l) (i:=1) rfl
theorem ztW (rs:List ResultVar) (ins:List LR) (outs:List (List PV)) (x:Value):zGe T rs ins outs x .ret s = zCT T s rs ins outs x:=(rfl)
theorem zpy (rs:List ResultVar) (ins:List LR) (outs:List (List PV)) (x:Value):zGe T rs ins outs x .norm s = zCT T s rs ins outs x:=(rfl)
theorem ztX (r:Nat) (ins:List LR) (outs:List (List PV)) (x:Value):zCT T s [.tmp r] ins outs x = (zq5 s.rw 0 ins outs∧s.sl r = .v x):=(rfl)
theorem zpz (ins:List LR) (outs:List (List PV)) (x:Value):zCT T s [] ins outs x = (zq5 s.rw 0 ins outs∧x = .tuple #[]):=(rfl)
theorem zxN (rw:Nat→Row) (e sz:Nat) (a c:List PV):zq5 rw 0 [⟨e,sz,a⟩] [c] = (rw 1000000 = ⟨1,.sli e sz false c⟩):=by
 show (rw 1000000 = ⟨1,.sli e sz false c⟩∧True) = _
 rw [and_true]
theorem zxO (rw:Nat→Row) (e sz e' sz':Nat) (a c a' c':List PV):zq5 rw 0 [⟨e,sz,a⟩,⟨e',sz',a'⟩] [c,c'] = (rw 1000000 = ⟨1,.sli e sz false c⟩∧rw 1000001 = ⟨1,.sli e' sz' false c'⟩):=by
 show (rw 1000000 = ⟨1,.sli e sz false c⟩∧rw 1000001 = ⟨1,.sli e' sz' false c'⟩∧True) = _
 rw [and_true]
theorem zm0 (j v e sz:Nat) (a c:List PV):s.wrote [(j,v)] [⟨e,sz,a⟩] [c] = s.row j ⟨v,.sli e sz false c⟩:=by
 unfold St.wrote St.row zdI
 congr 1
 funext k
 by_cases h:k = j
 ·subst h;simp
 ·have:(j == k) = false:=by simp;exact fun e=>h e.symm
  simp [h,this]
theorem zm1 [zah] (j v e sz j' v' e' sz':Nat) (a c a' c':List PV) (hj:j ≠ j'):s.wrote [(j,v),(j',v')] [⟨e,sz,a⟩,⟨e',sz',a'⟩] [c,c'] = (s.row j ⟨v,.sli e sz false c⟩).row j' ⟨v',.sli e' sz' false c'⟩:=by
 have hn:([(j,v),(j',v')].map (·.1)).Nodup:=by simpa using hj
 unfold St.wrote St.row
 congr 1
 funext k
 show zdI s.rw [(j,v),(j',v')] [⟨e,sz,a⟩,⟨e',sz',a'⟩] [c,c'] k = if k = j' then ⟨v',.sli e' sz' false c'⟩ else if k = j then ⟨v,.sli e sz false c⟩ else s.rw k
 by_cases h:k = j'
 ·subst h
  rw [if_pos rfl]
  exact zkf hn (i:=1) (j:=(k,v')) (r:=⟨e',sz',a'⟩) (c:=c') rfl rfl rfl
 ·rw [if_neg h]
  by_cases h':k = j
  ·subst h'
   rw [if_pos rfl]
   exact zkf hn (i:=0) (j:=(k,v)) (r:=⟨e,sz,a⟩) (c:=c) rfl rfl rfl
  ·rw [if_neg h']
   exact zmj (by simp [h,h'])
theorem AG.go [zah] {f:FuncId} {fn:Func} {c:Code} {rs:List ResultVar} {args:List PV} {R0:Nat→Row} {post:(Nat→Row)→PV→Prop} (hT:T.Ok P) (hm:P.follows .mixedOrders = true) (hf:P.funcs[f]? = some fn) (hname:(fn.name == "runtime.NumGoroutine") = false)
 (hb:fn.body = some c) (hr:fn.results.toList = rs) (hfit:(fits fn.ntmps c && decide (args.length ≤ fn.ntmps) && decide (fn.results.toList.length ≤ 4)) = true)
 (h:zz9 args→(∀ k,zmb (R0 k).kind)→∀ s:St,(∀ i,s.sl i = args.getD i .junk)→(∀ k,s.rw k = R0 k)→cwp P T c (zCf T rs post) s):AG P f args R0 post:=by
 subst hr
 refine ⟨⟨fn,hf,hname,by rw [hb];rfl⟩,fun w M E vals hw hR hv=>?_⟩
 exact (AG.of hT hm hf hname hb hfit (fun hl=>h (zxM hv) hl _ (fun _=>rfl) (fun _=>rfl))).2 w M E vals hw hR hv
theorem ztY (rs:List ResultVar) (post:(Nat→Row)→PV→Prop):zCf T rs post .ret s = zxR T s rs post:=(rfl)
theorem zpA (rs:List ResultVar) (post:(Nat→Row)→PV→Prop):zCf T rs post .norm s = zxR T s rs post:=(rfl)
theorem ztZ (r:Nat) (post:(Nat→Row)→PV→Prop):zxR T s [.tmp r] post = post s.rw (s.sl r):=(rfl)
theorem zpB (post:(Nat→Row)→PV→Prop):zxR T s [] post = post s.rw (.tup []):=(rfl)
theorem zpC (a:Nat) (t:TypeId) (post:(Nat→Row)→PV→Prop):zxR T s [.cell a t] post = zqJ s.rw (s.sl a) (kk fun m c off=>ldK T t m c off (kk fun p=>post s.rw p)):=(rfl)
theorem zt0 (r r2:Nat) (post:(Nat→Row)→PV→Prop):zxR T s [.tmp r,.tmp r2] post = post s.rw (.tup [s.sl r,s.sl r2]):=(rfl)
theorem zat {n:Int} (h:-9223372036854775808 ≤ n) (h2:n ≤ 9223372036854775807):IntKind.i64.wrap n = n:=by
 simp [IntKind.wrap,IntKind.bits,IntKind.signed]
 omega
section
variable {Kp:PV→Prop}
theorem zj0 [zah] (k:Nat) (p:List Nat) {t:TypeId} (o:Nat) (h0:(T t).k.agg = false) (h1:0 < (T t).size):ldK T t .asis (zaI k p) o Kp = (o < p.length∧Kp (.own (sid k (p.getD o 0)) 1)):=by
 have:=zgb (T:=T) (Kp:=Kp) (fun j=>PV.own (sid k j) 1) 0 p (t:=t) (m:=.asis) o (fun j=>.own (sid k j) 1) (fun _=>rfl) h0 h1
 exact this
theorem zGc (k:Nat) (p:List Nat) (i j:Nat):spl (zaI k p) i [.own (sid k j) 1] = zaI k (p.set i j):=by
 show (zaI k p).set i (.own (sid k j) 1) = _
 unfold zaI;rw [List.map_set]
theorem zAe (k:Nat) (p:List Nat) (j:Nat):zaI k p ++ [.own (sid k j) 1] = zaI k (p ++ [j]):=by simp [zaI]
theorem zgR (k v e e2:Nat) (p:List Nat) (rows:List (List PV)):(s.tabbed k v e e2 p rows).sl = s.sl:=(rfl)
theorem zfq [zah] (k v e e2:Nat) (p:List Nat) (rows:List (List PV)):(s.tabbed k v e e2 p rows).rw k = ⟨v,.tab e (zaI k p)⟩:=zgY
theorem zgS [zah] (k v e e2:Nat) (p:List Nat) (rows:List (List PV)) (j:Nat) (h:(j % 1000 == k % 1000) = false):(s.tabbed k v e e2 p rows).rw j = s.rw j:=by
 have h:=beq_eq_false_iff_ne.1 h
 refine zhr (fun e=>h (by rw [e])) fun x _ e=>h ?_
 rw [e,zbM];omega
theorem zpD (k v:Nat) (dst:Option Nat):TR.self.next s k v dst K = K (s.put dst (.own k v)):=(rfl)
theorem zl9 (k v:Nat) (dst:Option Nat) (x:Value):(TR.selfx x).next s k v dst K = K (s.put dst (.tup [.own k v,.v x])):=(rfl)
theorem zxP (k v d:Nat) (r:RV):(TR.rv r).next s k v (some d) K = (d % 1000 ≠ k % 1000∧K (zal s d r)):=(rfl)
theorem zpE (k v:Nat) (r:RV):(TR.rv r).next s k v none K = K s:=(rfl)
theorem ziS (args:List PV) (e e2:Nat) (rows:List (List PV)) (i:Nat):(St.initT args e e2 rows).sl i = args.getD i .junk:=(rfl)
theorem ziT (args:List PV) (e e2:Nat) (rows:List (List PV)) (i:Nat):(St.initT args e e2 rows).rw i = inT e e2 rows i:=(rfl)
theorem zm2 [zah] (e e2:Nat) (rows:List (List PV)) (k:Nat) (h:k < 1000000):inT e e2 rows k = ⟨0,.dead⟩:=zyb h
theorem zei [zah] (e e2:Nat) (rows:List (List PV)):inT e e2 rows 1000000 = ⟨1,.tab e (zaI 1000000 (List.range rows.length))⟩:=zcZ
theorem zt1 (rs:List ResultVar) (e e2 n:Nat) (rows:List (List PV)) (res:TR):zGd T rs e e2 n rows res .ret s = zCg T s rs e e2 n rows res:=(rfl)
theorem zpF (rs:List ResultVar) (e e2 n:Nat) (rows:List (List PV)) (res:TR):zGd T rs e e2 n rows res .norm s = zCg T s rs e e2 n rows res:=(rfl)
def zt2 (rw:Nat→Row) (e e2 n:Nat) (rows:List (List PV)):Prop:=∃ q:List Nat,TabIs rw lent 1 e e2 q rows∧q.Perm (List.range n)
theorem zpG (r e e2 n:Nat) (rows:List (List PV)):zCg T s [.tmp r] e e2 n rows .self = (zt2 s.rw e e2 n rows∧s.sl r = .own 1000000 1):=(rfl)
theorem zma (r r2 e e2 n:Nat) (rows:List (List PV)) (x:Value):zCg T s [.tmp r,.tmp r2] e e2 n rows (.selfx x) = (zt2 s.rw e e2 n rows∧s.sl r = .own 1000000 1∧s.sl r2 = .v x):=(rfl)
theorem zxQ (rs:List ResultVar) (e e2 n:Nat) (rows:List (List PV)) (r:RV):zCg T s rs e e2 n rows (.rv r) = (zt2 s.rw e e2 n rows∧zuU T s rs r):=(rfl)
theorem zeY [zah] (d e e2:Nat) (rows:List (List PV)):(zal s d (.tb e e2 rows)).sl d = .own d ((s.rw d).ver + 1):=by
 unfold zal
 rw [zaQ]
 rfl
theorem zdl [zah] (d e e2 t:Nat) (rows:List (List PV)) (h:t ≠ d):(zal s d (.tb e e2 rows)).sl t = s.sl t:=by
 unfold zal
 rw [zbp _ _ _ _ h]
theorem zeZ [zah] (d e e2 j:Nat) (rows:List (List PV)) (h:(j % 1000 == d % 1000) = false):(zal s d (.tb e e2 rows)).rw j = s.rw j:=by
 have h:=beq_eq_false_iff_ne.1 h
 unfold zal
 rw [zfN]
 show zaC s.rw d (leaves (.tb e e2 rows)) 0 j = s.rw j
 rw [zcG]
 refine zcs _ _ _ _ _ fun i _ e=>h ?_
 rw [e];unfold zak;omega
theorem zpH [zah] (d e e2:Nat) (rows:List (List PV)) {i:Nat} (h:i < rows.length):(zal s d (.tb e e2 rows)).rw (sid d i) = ⟨(s.rw (sid d i)).ver + 1,.sli e2 1 false (rows.getD i [])⟩:=by
 have hrw:(zal s d (.tb e e2 rows)).rw = zhs s.rw d (zbu s.rw d (leaves (.tb e e2 rows)) 0) 0:=by
  unfold zal;rw [zfN];exact zcG _ _ _ _
 have hl:(leaves (.tb e e2 rows)).length = rows.length + 1:=by rw [leaves];simp
 have h1:i + 1 < (zbu s.rw d (leaves (.tb e e2 rows)) 0).length:=by rw [zbd,hl];omega
 have h2:i + 1 < (leaves (.tb e e2 rows)).length:=by rw [hl];omega
 have:=zdp s.rw d (zbu s.rw d (leaves (.tb e e2 rows)) 0) 0 (i + 1) h1
 rw [Nat.zero_add] at this
 rw [hrw]
 show zhs s.rw d _ 0 (zak d (i + 1)) = _
 rw [this,zdg _ _ _ _ _ h2,Nat.zero_add]
 have h3:(leaves (.tb e e2 rows))[i + 1] = (e2,some 1,rows[i]):=by simp [leaves]
 rw [h3]
 simp [zbQ,sid,List.getD,h]
theorem zd4 [zah] (d e e2:Nat) (rows:List (List PV)):(zal s d (.tb e e2 rows)).rw d = ⟨(s.rw d).ver + 1,.tab e (zaY s.rw d 0 rows.length)⟩:=by
 have hrw:(zal s d (.tb e e2 rows)).rw = zhs s.rw d (zbu s.rw d (leaves (.tb e e2 rows)) 0) 0:=by
  unfold zal;rw [zfN];exact zcG _ _ _ _
 have hl:(leaves (.tb e e2 rows)).length = rows.length + 1:=by rw [leaves];simp
 have h1:0 < (zbu s.rw d (leaves (.tb e e2 rows)) 0).length:=by rw [zbd,hl];omega
 have h2:0 < (leaves (.tb e e2 rows)).length:=by rw [hl];omega
 have:=zdp s.rw d (zbu s.rw d (leaves (.tb e e2 rows)) 0) 0 0 h1
 rw [Nat.zero_add] at this
 rw [hrw]
 have hd:zak d 0 = d:=by unfold zak;omega
 have e1:zhs s.rw d (zbu s.rw d (leaves (.tb e e2 rows)) 0) 0 d = zhs s.rw d (zbu s.rw d (leaves (.tb e e2 rows)) 0) 0 (zak d 0):=by rw [hd]
 rw [e1,this,zdg _ _ _ _ _ h2]
 have h3:(leaves (.tb e e2 rows))[0] = (e,none,List.replicate rows.length .junk):=by simp [leaves]
 rw [h3]
 simp [zbQ,hd]
theorem zj1 [zah] (d j:Nat):zak d (0 + 1 + j) = sid d j:=by rw [zbM];unfold zak;omega
theorem zpI [zah] (d e e2:Nat) (rows:List (List PV)) (h:∀ i,i < rows.length→(s.rw (sid d i)).ver = 0):TabIs (zal s d (.tb e e2 rows)).rw d ((s.rw d).ver + 1) e e2 (List.range rows.length) rows:=by
 refine ⟨?_,by simp,fun i hi=>?_⟩
 ·rw [zd4]
  congr 2
  unfold zaY zaI
  refine List.map_congr_left fun j hj=>?_
  rw [zj1,h j (List.mem_range.1 hj)]
 ·have hi':i < rows.length:=by simpa using hi
  have:(List.range rows.length).getD i 0 = i:=by simp [List.getD,hi']
  rw [this,zpH d e e2 rows hi',h i hi']
theorem zq4 [zah] (d e e2:Nat) (rows:List (List PV)):(zaY s.rw d 0 rows.length).map (zk5 (zal s d (.tb e e2 rows)).rw) = rows.map fun r=>.sl false 1 r:=by
 refine List.ext_getElem (by simp [zaY]) fun i a b=>?_
 have hi:i < rows.length:=by simpa using b
 have h2:rows.getD i [] = rows[i]:=by simp [List.getD,hi]
 rw [List.getElem_map,List.getElem_map]
 simp only [zaY,List.getElem_map,List.getElem_range]
 rw [zj1]
 simp only [zk5,zpH d e e2 rows hi,if_true,h2]
end
theorem zgT (k:Nat) (p:List Nat):(s.killed k p).sl = s.sl:=(rfl)
theorem zgU [zah] (k:Nat) (p:List Nat) (j:Nat) (h:(j % 1000 == k % 1000) = false):(s.killed k p).rw j = s.rw j:=by
 have h:=beq_eq_false_iff_ne.1 h
 refine zcg fun hj=>h ?_
 rcases hj with rfl | ⟨x,_,rfl⟩
 ·rfl
 ·exact zaa _ _
theorem zj2 [zah] {rw0:Nat→Row} (d e e2:Nat) (rows:List (List PV)) (h:∀ i,s.rw (sid d i) = rw0 (sid d i)):(zaY rw0 d 0 rows.length).map (zk5 (zal s d (.tb e e2 rows)).rw) = rows.map fun r=>.sl false 1 r:=by
 have:zaY rw0 d 0 rows.length = zaY s.rw d 0 rows.length:=by
  unfold zaY
  refine List.map_congr_left fun j _=>?_
  rw [zj1,h j]
 rw [this,zq4]
theorem zCe (M:List (List Int)):(M.map iL).map (fun r=>PV.sl false 1 r) = iLL M:=by
 unfold iLL
 rw [List.map_map];rfl
def zpJ [zah] {α:Type} (I:α→St→Prop) (μ:α→Nat) (m:Nat) (s2:St):Prop:=∃ x' s3,Wk s2 s3∧I x' s3∧μ x' < m
theorem zag [zah] {α:Type} {I:α→St→Prop} {μ:α→Nat} {m:Nat} (x':α) (h:I x' s) (hm:μ x' < m):zpJ I μ m s:=⟨x',s,Wk.refl s,h,hm⟩
theorem zaq [zah] {α:Type} (I:α→St→Prop) (μ:α→Nat) (x0:α) {b:(AX→St→Prop)→St→Prop} {u:Dm b} {v:Dm Q} (h0:I x0 s) (h:∀ x s1,I x s1→b (AX.seq (zpJ I μ (μ x)) Q) s1):zuZ (kk b u) (kk Q v) s :=
 ⟨α,I,μ,⟨x0,s,Wk.refl s,h0⟩,h⟩
end
end Go.Abs
