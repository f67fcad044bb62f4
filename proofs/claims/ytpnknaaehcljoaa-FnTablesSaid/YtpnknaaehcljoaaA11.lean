/- DERIVED by an AI agent. Rules by which simp carries a text out, head first. No program in sight. -/
import Derived.Test.YtpnknaaehcljoaaA10
namespace Go.Abs
set_option linter.unusedSimpArgs false
set_option linter.unusedVariables false
def iL (xs:List Int):List PV:=xs.map fun n=>.v (.int .i64 n)
def kL (k:IntKind) (xs:List Int):List PV:=xs.map fun n=>.v (.int k n)
def sL (xs:List ByteArray):List PV:=xs.map fun n=>.v (.string n)
def bL (xs:List Bool):List PV:=xs.map fun n=>.v (.bool n)
def iLL (xss:List (List Int)):List PV:=xss.map fun r=>.sl false 1 (iL r)
abbrev zbx (xs:List Int):PV:=.sl false 1 (iL xs)
abbrev zOl (xs:List ByteArray):PV:=.sl false 1 (sL xs)
abbrev zq5 (xss:List (List Int)):PV:=.sl false 1 (iLL xss)
abbrev int (n:Int):PV:=.v (.int .i64 n)
abbrev u64 (n:Int):PV:=.v (.int .u64 n)
abbrev bool (b:Bool):PV:=.v (.bool b)
abbrev str (s:ByteArray):PV:=.v (.string s)
theorem zju (xs:List Int):(iL xs).length = xs.length:=by simp [iL]
theorem zon (k:IntKind) (xs:List Int):(kL k xs).length = xs.length:=by simp [kL]
theorem zb6 (xs:List ByteArray):(sL xs).length = xs.length:=by simp [sL]
theorem zoo (xs:List Bool):(bL xs).length = xs.length:=by simp [bL]
theorem zhe (xs:List (List Int)):(iLL xs).length = xs.length:=by simp [iLL]
theorem zop (xs ys:List Int):iL xs ++ iL ys = iL (xs ++ ys):=by simp [iL]
theorem zwV (xs:List Int) (n:Int):iL xs ++ [.v (.int .i64 n)] = iL (xs ++ [n]):=by simp [iL]
theorem zoq (k:IntKind) (xs ys:List Int):kL k xs ++ kL k ys = kL k (xs ++ ys):=by simp [kL]
theorem zwW (k:IntKind) (xs:List Int) (n:Int):kL k xs ++ [.v (.int k n)] = kL k (xs ++ [n]):=by simp [kL]
theorem zna (xs:List ByteArray) (n:ByteArray):sL xs ++ [.v (.string n)] = sL (xs ++ [n]):=by simp [sL]
theorem zor (xs ys:List ByteArray):sL xs ++ sL ys = sL (xs ++ ys):=by simp [sL]
theorem znb (xs:List (List Int)) (r:List Int):iLL xs ++ [.sl false 1 (iL r)] = iLL (xs ++ [r]):=by simp [iLL]
theorem zlE (xs ys:List (List Int)):iLL xs ++ iLL ys = iLL (xs ++ ys):=by simp [iLL]
theorem zwX (xs:List Int) (n:Nat):(iL xs).take n = iL (xs.take n):=by simp [iL]
theorem zwY (xs:List Int) (n:Nat):(iL xs).drop n = iL (xs.drop n):=by simp [iL]
theorem zwZ (xs:List ByteArray) (n:Nat):(sL xs).take n = sL (xs.take n):=by simp [sL]
theorem zw0 (xs:List ByteArray) (n:Nat):(sL xs).drop n = sL (xs.drop n):=by simp [sL]
theorem zsx (xs:List (List Int)) (n:Nat):(iLL xs).take n = iLL (xs.take n):=by simp [iLL]
theorem zsy (xs:List (List Int)) (n:Nat):(iLL xs).drop n = iLL (xs.drop n):=by simp [iLL]
theorem zBM (xs:List Int) (i:Nat) (n:Int):spl (iL xs) i [.v (.int .i64 n)] = iL (xs.set i n):=by simp [spl,iL]
theorem zBN (a p:PV) (c:List PV):spl (a :: c) 0 [p] = p :: c:=by simp [spl]
theorem zBO (a b p:PV) (c:List PV):spl (a :: b :: c) 1 [p] = a :: p :: c:=by simp [spl]
theorem zBP (a b d p:PV) (c:List PV):spl (a :: b :: d :: c) 2 [p] = a :: b :: p :: c:=by simp [spl]
theorem zBQ (a b d e p:PV) (c:List PV):spl (a :: b :: d :: e :: c) 3 [p] = a :: b :: d :: p :: c:=by simp [spl]
theorem zBR (a b p q:PV):spl [a,b] 0 [p,q] = [p,q]:=by simp [spl]
theorem zBS (a b c d p q:PV):spl [a,b,c,d] 0 [p,q] = [p,q,c,d]:=by simp [spl]
theorem zw1 (a b c d p q:PV):spl [a,b,c,d] 2 [p,q] = [a,b,p,q]:=by simp [spl]
theorem zBT (a b c d p q r s:PV):spl [a,b,c,d] 0 [p,q,r,s] = [p,q,r,s]:=by simp [spl]
theorem zBU (xs:List Bool) (i:Nat) (n:Bool):spl (bL xs) i [.v (.bool n)] = bL (xs.set i n):=by simp [spl,bL]
theorem zw2 (xs:List (List Int)) (i:Nat) (r:List Int):spl (iLL xs) i [.sl false 1 (iL r)] = iLL (xs.set i r):=by simp [spl,iLL]
theorem zcL (n:Nat) (x:Int):List.replicate n (PV.v (.int .i64 x)) = iL (List.replicate n x):=by simp [iL]
theorem zeI (n:Nat) (x:Bool):List.replicate n (PV.v (.bool x)) = bL (List.replicate n x):=by simp [bL]
theorem zw3 (xs:List Int):(∀ p ∈ iL xs,isV p = true) = True:=by simp [iL,isV,Value.oneCell']
theorem zFM (k:IntKind) (xs:List Int):(∀ p ∈ kL k xs,isV p = true) = True:=by simp [kL,isV,Value.oneCell']
theorem zBV (xs:List ByteArray):(∀ p ∈ sL xs,isV p = true) = True:=by simp [sL,isV,Value.oneCell']
theorem zAQ (xs:List (List Int)):(∀ p ∈ iLL xs,zq6 p = true) = True:=by simp [iLL,zq6]
theorem zw4 (k:IntKind) (n:Int):(Value.int k n).oneCell' = true:=(rfl)
theorem zsz (b:Bool):(Value.bool b).oneCell' = true:=(rfl)
theorem zlF (b:ByteArray):(Value.string b).oneCell' = true:=(rfl)
theorem zos (a:Option Addr) (l c:Nat):(Value.slice a l c).oneCell' = true:=(rfl)
theorem ziL (s:St) (p:PV):s.put none p = s:=(rfl)
theorem zep (s:St) (d:Option Nat) (p:PV):(s.put d p).rw = s.rw:=by cases d <;> rfl
theorem zsA (s:St) (k:Nat) (r:Row):(s.row k r).sl = s.sl:=(rfl)
theorem zaI (s:St) (k:Nat) (r:Row):(s.row k r).rw k = r:=by simp [St.row]
theorem zat (s:St) (k j:Nat) (r:Row) (h:j ≠ k):(s.row k r).rw j = s.rw j:=by simp [St.row,h]
theorem zgl (s:St) (ks:List Nat):(s.freeze ks).sl = s.sl:=(rfl)
theorem zgm (s:St) (ks:List Nat) (k:Nat):(s.freeze ks).rw k = if k ∈ ks then frz (s.rw k) else s.rw k:=(rfl)
theorem znc (ver:Nat) (e sz:Nat) (fz:Bool) (c:List PV):frz ⟨ver,.sli e sz fz c⟩ = ⟨ver,.sli e sz true c⟩:=(rfl)
theorem zsB (s:St) (t:Nat):s.ev (.tmp t) = s.sl t:=(rfl)
theorem zw5 (s:St) (f:FuncId):s.ev (.func f) = .clo f []:=(rfl)
theorem zsC (s:St) (k:IntKind) (n:Int):s.ev (.const (.int k n)) = .v (.int k n):=(rfl)
theorem znd (s:St) (b:Bool):s.ev (.const (.bool b)) = .v (.bool b):=(rfl)
theorem zgn (s:St) (b:ByteArray):s.ev (.const (.string b)) = .v (.string b):=(rfl)
theorem zsD (s:St) (a:Option Addr) (l c:Nat):s.ev (.const (.slice a l c)) = .v (.slice a l c):=(rfl)
theorem zBW (s:St) (cs:List Value):s.ev (.const (.agg ⟨cs⟩)) = .ag (cs.map PV.v):=(rfl)
theorem zne (args:List PV) (i:Nat):(St.init args).sl i = args.getD i .junk:=(rfl)
theorem znf (args:List PV) (i:Nat):(St.init args).rw i = ⟨0,.dead⟩:=(rfl)
theorem zgo {α:Type} (a:α) (l:List α) (d:α):(a :: l).getD 0 d = a:=(rfl)
theorem zgp {α:Type} (a:α) (l:List α) (i:Nat) (d:α):(a :: l).getD (i + 1) d = l.getD i d:=(rfl)
theorem ziM {α:Type} (i:Nat) (d:α):([]:List α).getD i d = d:=(rfl)
theorem ziN (s:St) (d:Nat) (kd:RK) (p:Nat→PV):zcP s d kd p = (s.row d ⟨(s.rw d).ver + 1,kd⟩).put (some d) (p ((s.rw d).ver + 1)):=(rfl)
theorem ziO (s:St) (d k:Nat) (kd:RK):zc5 s d k kd = (s.row k ⟨(s.rw k).ver + 1,kd⟩).put (some d) (.own k ((s.rw k).ver + 1)):=(rfl)
def St.with (g:St) (l:List (Nat × PV)) (r:List (Nat × Row)):St:=r.foldl (fun s x=>s.row x.1 x.2) (l.foldl (fun s x=>s.put (some x.1) x.2) g)
structure Dm {α:Type} (K:α):Type
def kk {α:Type} (K:α) (_:Dm K:=⟨⟩):α:=K
theorem zAR {α β:Type} (K:α→β) (u:Dm K) (x:α):kk K u x = K x:=(rfl)
def evK (p:PV) (K:PV→Prop):Prop:=K p
theorem zFN (v:Value) (K:PV→Prop):evK (.v v) K = K (.v v):=(rfl)
theorem zBX (fr:Bool) (z:Nat) (c:List PV) (K:PV→Prop):evK (.sl fr z c) K = K (.sl fr z c):=(rfl)
theorem zw6 (j v:Nat) (K:PV→Prop):evK (.own j v) K = K (.own j v):=(rfl)
theorem zw7 (j v o:Nat) (K:PV→Prop):evK (.ref j v o) K = K (.ref j v o):=(rfl)
theorem zsE (fr:Bool) (c:List PV) (o:Nat) (K:PV→Prop):evK (.eref fr c o) K = K (.eref fr c o):=(rfl)
theorem zBY (c:List PV) (K:PV→Prop):evK (.ag c) K = K (.ag c):=(rfl)
theorem zw8 (c:List PV) (K:PV→Prop):evK (.tup c) K = K (.tup c):=(rfl)
theorem zw9 (f:FuncId) (c:List PV) (K:PV→Prop):evK (.clo f c) K = K (.clo f c):=(rfl)
theorem zsF (K:PV→Prop):evK .junk K = K .junk:=(rfl)
section
variable {P:Program} {T:Tab} {ops:Array Oper} {Q:AX→St→Prop} {s:St}
def zAS (p:PV) (A B:Prop):Prop:=match p with | .v (.bool b)=>(b = true→A)∧(b = false→B) | _=>False
def c1 (b:Bool) (A B:Prop):Prop:=(b = true→A)∧(b = false→B)
def c2 (b:Bool) (A B:Prop):Prop:=(b = true→A)∧(b = false→B)
def d1 (b:Bool) (A B:Prop):Prop:=(b = false→A)∧(b = true→B)
def d2 (b:Bool) (A B:Prop):Prop:=(b = false→A)∧(b = true→B)
theorem zFO (A B:Prop):c1 true (kk A) (kk B) = A:=by simp [c1,kk]
theorem zFP (A B:Prop):c1 false (kk A) (kk B) = B:=by simp [c1,kk]
theorem zFQ (A B:Prop):c2 true (kk A) (kk B) = A:=by simp [c2,kk]
theorem zFR (A B:Prop):c2 false (kk A) (kk B) = B:=by simp [c2,kk]
theorem zFS (A B:Prop):d1 true (kk A) (kk B) = B:=by simp [d1,kk]
theorem zFT (A B:Prop):d1 false (kk A) (kk B) = A:=by simp [d1,kk]
theorem zFU (A B:Prop):d2 true (kk A) (kk B) = B:=by simp [d2,kk]
theorem zFV (A B:Prop):d2 false (kk A) (kk B) = A:=by simp [d2,kk]
theorem zBZ (b:Bool) (A B:Prop):c1 b A B = c2 b A B:=(rfl)
theorem zB0 (b:Bool) (A B:Prop):c2 b (kk A) (kk B) = ((b = true→A)∧(b = false→B)):=(rfl)
theorem zB1 (b:Bool) (A B:Prop):d1 b A B = d2 b A B:=(rfl)
theorem zB2 (b:Bool) (A B:Prop):d2 b (kk A) (kk B) = ((b = false→A)∧(b = true→B)):=(rfl)
theorem zlG (b:Bool) (A B:Prop):zAS (.v (.bool b)) A B = c1 b A B:=(rfl)
theorem zsG [zaj]:cwp P T .skip Q s = Q .norm s:=(rfl)
theorem zhM [zaj] (id:Nat):cwp P T (.region id ops false) Q s = zrD P T ops ops.toList s (Q .norm):=(rfl)
theorem zhN [zaj] (id:Nat):cwp P T (.region id ops true) Q s = (zkm ops = true∧zeO P T ops [] ops.toList s (Q .norm)):=(rfl)
theorem zxa [zaj] (x y:Code):cwp P T (.seq x y) Q s = cwp P T x (AX.seq (cwp P T y Q) Q) s:=(rfl)
theorem zsH [zaj] (c:Operand) (x y:Code):cwp P T (.cond c x y) Q s = zAS (s.ev c) (kk (cwp P T x Q s)) (kk (cwp P T y Q s)):=(rfl)
theorem zot [zaj] (id:Nat) (x:Code):cwp P T (.block id x) Q s = cwp P T x (AX.blk id Q) s:=(rfl)
theorem zsI [zaj] (x:Code):cwp P T (.loop x) Q s = zp9 (kk (cwp P T x)) (kk Q) s:=(rfl)
theorem zsJ [zaj] (id:Nat):cwp P T (.exit id) Q s = Q (.exit id) s:=(rfl)
theorem zxb [zaj]:cwp P T .ret Q s = Q .ret s:=(rfl)
theorem zou [zaj] (l:Nat):cwp P T (.label l) Q s = Q .norm s:=(rfl)
variable {K:St→Prop}
theorem zsK:AX.seq K Q .norm s = K s:=(rfl)
theorem zxc:AX.seq K Q .ret s = Q .ret s:=(rfl)
theorem zsL (id:Nat):AX.seq K Q (.exit id) s = Q (.exit id) s:=(rfl)
theorem zsM (id:Nat):AX.blk id Q .norm s = Q .norm s:=(rfl)
theorem zxd (id:Nat):AX.blk id Q .ret s = Q .ret s:=(rfl)
theorem zgq (id:Nat):AX.blk id Q (.exit id) s = Q .norm s:=by simp [AX.blk]
theorem zjv (id i:Nat) (h:i ≠ id):AX.blk id Q (.exit i) s = Q (.exit i) s:=by simp [AX.blk,h]
theorem zsN (rs:List ResultVar) (rv:RV):zHn T rs rv .ret s = zvn T s rs rv:=(rfl)
theorem zov (rs:List ResultVar) (rv:RV):zHn T rs rv .norm s = zvn T s rs rv:=(rfl)
theorem zsO [zaj]:zrD P T ops [] s K = K s:=(rfl)
theorem zjw:∀ (n:Nat) (p:Nat→Bool),(∀ k,k < n→p k = true)→zcG n p = true:=by
 intro n
 induction n with
 | zero=>intro p _;rfl
 | succ n ih=>intro p h;simp only [zcG,Bool.and_eq_true];exact ⟨h n (by omega),ih p fun k hk=>h k (by omega)⟩
def clr (e:Ent):List Ent→Bool | []=>true | e' :: l=>!zmE e' e && clr e l
def zgr:List Ent→Bool | []=>true | e :: l=>clr e l && zgr l
theorem zrr:∀ {l:List Ent},zgr l = true→l.Pairwise fun a b=>zmE b a = false:=by
 intro l
 induction l with
 | nil=>intro _;exact .nil
 | cons e l ih =>
   intro h
   simp only [zgr,Bool.and_eq_true] at h
   refine List.pairwise_cons.2 ⟨?_,ih h.2⟩
   have:∀ l':List Ent,clr e l' = true→∀ b ∈ l',zmE b e = false:=by
    intro l'
    induction l' with
    | nil=>intro _ b hb;cases hb
    | cons x l' ih' =>
      intro h b hb
      simp only [clr,Bool.and_eq_true,Bool.not_eq_true'] at h
      rcases List.mem_cons.1 hb with rfl | hb
      ·exact h.1
      ·exact ih' h.2 b hb
   exact this l h.1
theorem zvg [zaj] {l:List Ent} (h:zgr l = true):zlg ops l.reverse = true:=by
 have hp:l.reverse.Pairwise fun a b=>zmE a b = false:=List.pairwise_reverse.2 (zrr h)
 unfold zlg
 refine zjw _ _ fun j hj=>zjw _ _ fun i hi=>?_
 split
 ·rename_i a b ha hb
  obtain ⟨h1,rfl⟩:=List.getElem?_eq_some_iff.1 ha
  obtain ⟨h2,rfl⟩:=List.getElem?_eq_some_iff.1 hb
  have:=List.pairwise_iff_getElem.1 hp i j h1 h2 hi
  rw [this];rfl
 ·rfl
def zxe (ops:Array Oper) (acc:List Ent) (A:Prop):Prop:=zlg ops acc.reverse = true∧A
def lnK (b:Bool) (ops:Array Oper) (acc:List Ent) (A:Prop):Prop:=match b with | true=>A | false=>zlg ops acc.reverse = true∧A
theorem zow [zaj] (acc:List Ent) (A:Prop):zxe ops acc (kk A) = lnK (zgr acc) ops acc (kk A):=by
 unfold zxe lnK
 cases h:zgr acc with
 | true=>simp [zvg h,kk]
 | false=>rfl
theorem zFW (acc:List Ent) (A:Prop):lnK true ops acc (kk A) = A:=(rfl)
theorem zFX (acc:List Ent) (A:Prop):lnK false ops acc (kk A) = (zlg ops acc.reverse = true∧A):=(rfl)
theorem zB3:zgr [] = true:=(rfl)
theorem zxf (e:Ent) (l:List Ent):zgr (e :: l) = (clr e l && zgr l):=(rfl)
theorem zxg (e:Ent):clr e [] = true:=(rfl)
theorem zsP (e e':Ent) (l:List Ent):clr e (e' :: l) = (!zmE e' e && clr e l):=(rfl)
def zn6 (l:List Nat) (t:Tc):Bool:=l.any t.has
theorem zsQ (t:Tc):zn6 [] t = false:=(rfl)
theorem zox (k:Nat) (l:List Nat) (t:Tc):zn6 (k :: l) t = (t.has k || zn6 l t):=(rfl)
theorem zxh (k:Nat):(Tc.ids []).has k = false:=(rfl)
theorem zsR (a:Nat) (l:List Nat) (k:Nat):(Tc.ids (a :: l)).has k = (a % 1000 == k % 1000 || (Tc.ids l).has k):=(rfl)
theorem zxi (d k:Nat):(Tc.res d).has k = (k % 1000 == d % 1000):=(rfl)
theorem zB4 (a b:List Nat):zmE ⟨a,.ids []⟩ ⟨b,.ids []⟩ = false:=by
 have e:∀ l:List Nat,l.any (Tc.ids []).has = false:=fun l=>by
  rw [List.any_eq_false];intro x _;simp [Tc.has]
 simp [zmE,e,zfG]
theorem zxj (a b t u:List Nat):zmE ⟨a,.ids t⟩ ⟨b,.ids u⟩ = (zn6 a (.ids u) || (zn6 b (.ids t) || zn6 t (.ids u))):=by simp [zmE,zn6,zfG,Bool.or_assoc]
theorem zxk (a b t:List Nat) (d:Nat):zmE ⟨a,.ids t⟩ ⟨b,.res d⟩ = (zn6 a (.res d) || (zn6 b (.ids t) || zn6 t (.res d))):=by simp [zmE,zn6,zfG,Bool.or_assoc]
theorem zxl (a b t:List Nat) (d:Nat):zmE ⟨a,.res d⟩ ⟨b,.ids t⟩ = (zn6 a (.ids t) || (zn6 b (.res d) || zn6 t (.res d))):=by simp [zmE,zn6,zfG,Bool.or_assoc]
theorem zxm (a b:List Nat) (d d':Nat):zmE ⟨a,.res d⟩ ⟨b,.res d'⟩ = (zn6 a (.res d') || (zn6 b (.res d) || (d % 1000 == d' % 1000))):=by simp [zmE,zn6,zfG,Bool.or_assoc]
theorem zoy [zaj] (acc:List Ent):zeO P T ops acc [] s K = zxe ops acc (kk (K s)):=(rfl)
def gK (d:Option Nat) (want:Bool) (s:St) (A B:Nat→Prop) (N:Prop):Prop :=
 match d with
 | some d=>(match s.sl d with | .v (.bool b)=>(b = want→A d)∧(b = !want→B d) | .v (.tuple _)=>N | _=>False)
 | none=>False
def gK1 (want:Bool) (p:PV) (A B N:Prop):Prop:=match p with | .v (.bool b)=>(b = want→A)∧(b = !want→B) | .v (.tuple _)=>N | _=>False
theorem zxn (d:Nat) (want:Bool) (A B:Nat→Prop) (N:Prop):gK (some d) want s A B N = gK1 want (s.sl d) (kk (A d)) (kk (B d)) N:=(rfl)
theorem zoz (want:Bool) (A B N:Prop):gK1 want (.v undef) A B (kk N) = N:=(rfl)
theorem zsS (b:Bool) (A B N:Prop):gK1 true (.v (.bool b)) A B N = c1 b A B:=(rfl)
theorem zoA (b:Bool) (A B N:Prop):gK1 false (.v (.bool b)) A B N = d1 b A B:=(rfl)
theorem zoB [zaj] {dst:Option Nat} {op:Op} {ty:TypeId} {pos:String} {af:Array Edge} {os:List Oper} :
 zrD P T ops (⟨dst,op,ty,pos,af,none⟩ :: os) s K = zd2 P T s ⟨dst,op,ty,pos,af,none⟩ (fun s2=>zrD P T ops os s2 K):=(rfl)
theorem zlH [zaj] {dst:Option Nat} {op:Op} {ty:TypeId} {pos:String} {af:Array Edge} {j:Nat} {want:Bool} {os:List Oper} :
 zrD P T ops (⟨dst,op,ty,pos,af,some (j,want)⟩ :: os) s K = gK ((ops[j]?).bind (·.dst)) want s
  (kk fun d=>zd2 P T (s.put (some d) (.v (.bool want))) ⟨dst,op,ty,pos,af,some (j,want)⟩ (fun s2=>zrD P T ops os s2 K))
  (kk fun d=>zrD P T ops os ((s.put (some d) (.v (.bool !want))).put dst (.v undef)) K) (kk (zrD P T ops os (s.put dst (.v undef)) K)):=(rfl)
theorem zB5 (l:List Oper) (j:Nat):((⟨l⟩:Array Oper)[j]?) = l[j]?:=by simp
theorem getElem?_zero {α:Type} (a:α) (l:List α):(a :: l)[0]? = some a:=(rfl)
theorem getElem?_succ {α:Type} (a:α) (l:List α) (i:Nat):(a :: l)[i + 1]? = l[i]?:=(rfl)
theorem zoC (o:Oper):(some o).bind (·.dst) = o.dst:=(rfl)
theorem zlI [zaj] {dst:Option Nat} {op:Op} {ty:TypeId} {pos:String} {af:Array Edge} {os:List Oper} (acc:List Ent) :
 zeO P T ops acc (⟨dst,op,ty,pos,af,none⟩ :: os) s K = dK P T s ⟨dst,op,ty,pos,af,none⟩ (kk fun e s2=>zeO P T ops (e :: acc) os s2 K):=(rfl)
theorem zjx [zaj] {dst:Option Nat} {op:Op} {ty:TypeId} {pos:String} {af:Array Edge} {j:Nat} {want:Bool} {os:List Oper} (acc:List Ent) :
 zeO P T ops acc (⟨dst,op,ty,pos,af,some (j,want)⟩ :: os) s K = gK ((ops[j]?).bind (·.dst)) want s
  (kk fun d=>dK P T (s.put (some d) (.v (.bool want))) ⟨dst,op,ty,pos,af,some (j,want)⟩ (kk fun e s2=>zeO P T ops (e :: acc) os s2 K))
  (kk fun d=>zeO P T ops (⟨[],.ids []⟩ :: acc) os ((s.put (some d) (.v (.bool !want))).put dst (.v undef)) K) (kk (zeO P T ops (⟨[],.ids []⟩ :: acc) os (s.put dst (.v undef)) K)):=(rfl)
def zc1 (l:List PV) (acc:List Nat) (Kn:List Nat→Prop):Prop:=Kn (acc ++ l.flatMap zd9)
def zn7 (l:List PV) (acc:List Nat) (Kn:List Nat→Prop):Prop:=Kn (acc ++ l.flatMap zCK)
section
variable (l:List PV) (acc:List Nat) (Kn:List Nat→Prop)
theorem zsT:zc1 [] acc (kk Kn) = Kn acc:=by simp [zc1,kk]
theorem zB6 (x:Value):zc1 (.v x :: l) acc (kk Kn) = zc1 l acc (kk Kn):=(rfl)
theorem zxo (fr:Bool) (z:Nat) (c:List PV):zc1 (.sl fr z c :: l) acc (kk Kn) = zc1 l acc (kk Kn):=(rfl)
theorem zoD (fr:Bool) (c:List PV) (o:Nat):zc1 (.eref fr c o :: l) acc (kk Kn) = zc1 l acc (kk Kn):=(rfl)
theorem zsU (f:FuncId) (c:List PV):zc1 (.clo f c :: l) acc (kk Kn) = zc1 l acc (kk Kn):=(rfl)
theorem zsV (c:List PV):zc1 (.tup c :: l) acc (kk Kn) = zc1 l acc (kk Kn):=(rfl)
theorem zoE:zc1 (.junk :: l) acc (kk Kn) = zc1 l acc (kk Kn):=(rfl)
theorem zsW (k v:Nat):zc1 (.own k v :: l) acc (kk Kn) = zc1 l (acc ++ [k % 1000]) (kk Kn):=by simp [zc1,kk,zd9,List.flatMap_cons]
theorem zsX (k v o:Nat):zc1 (.ref k v o :: l) acc (kk Kn) = zc1 l (acc ++ [k % 1000]) (kk Kn):=by simp [zc1,kk,zd9,List.flatMap_cons]
theorem zxp (c:List PV):zc1 (.ag c :: l) acc (kk Kn) = zn7 c acc (kk fun acc'=>zc1 l acc' (kk Kn)):=by simp [zc1,zn7,kk,zd9,List.flatMap_cons]
theorem zsY:zn7 [] acc (kk Kn) = Kn acc:=by simp [zn7,kk]
theorem zB7 (x:Value):zn7 (.v x :: l) acc (kk Kn) = zn7 l acc (kk Kn):=(rfl)
theorem zxq (fr:Bool) (z:Nat) (c:List PV):zn7 (.sl fr z c :: l) acc (kk Kn) = zn7 l acc (kk Kn):=(rfl)
theorem zoF (fr:Bool) (c:List PV) (o:Nat):zn7 (.eref fr c o :: l) acc (kk Kn) = zn7 l acc (kk Kn):=(rfl)
theorem zsZ (f:FuncId) (c:List PV):zn7 (.clo f c :: l) acc (kk Kn) = zn7 l acc (kk Kn):=(rfl)
theorem zs0 (k v:Nat):zn7 (.own k v :: l) acc (kk Kn) = zn7 l (acc ++ [k % 1000]) (kk Kn):=by simp [zn7,kk,zCK,List.flatMap_cons]
theorem zs1 (k v o:Nat):zn7 (.ref k v o :: l) acc (kk Kn) = zn7 l (acc ++ [k % 1000]) (kk Kn):=by simp [zn7,kk,zCK,List.flatMap_cons]
end
def zew (rw:Nat→Row) (n:Nat) (l:List PV) (acc:List Nat) (Kn:List Nat→Prop):Prop:=Kn (acc ++ l.flatMap (zdU rw n))
def zjy (r:Row) (rw:Nat→Row) (n:Nat) (acc:List Nat) (Kn:List Nat→Prop):Prop:=Kn (acc ++ (match r.kind with | .box _ c=>c.flatMap (zdU rw n) | _=>[]))
def zjz (r:Row) (k:Nat) (acc:List Nat) (Kn:List Nat→Prop):Prop:=Kn (acc ++ (match r.kind with | .tab _ c=>zrx k c | _=>[]))
section
variable (rw:Nat→Row) (n:Nat) (l:List PV) (acc:List Nat) (Kn:List Nat→Prop)
theorem zs2:zew rw n [] acc (kk Kn) = Kn acc:=by simp [zew,kk]
theorem zoG:zew rw 0 l acc (kk Kn) = Kn acc:=by
 have:l.flatMap (zdU rw 0) = []:=by simp [zdU]
 unfold zew kk
 rw [this,List.append_nil]
theorem zB8 (x:Value):zew rw (n + 1) (.v x :: l) acc (kk Kn) = zew rw (n + 1) l acc (kk Kn):=by simp [zew,zdU,List.flatMap_cons]
theorem zxr (fr:Bool) (z:Nat) (c:List PV):zew rw (n + 1) (.sl fr z c :: l) acc (kk Kn) = zew rw (n + 1) l acc (kk Kn):=by simp [zew,zdU,List.flatMap_cons]
theorem zoH (fr:Bool) (c:List PV) (o:Nat):zew rw (n + 1) (.eref fr c o :: l) acc (kk Kn) = zew rw (n + 1) l acc (kk Kn):=by simp [zew,zdU,List.flatMap_cons]
theorem zoI:zew rw (n + 1) (.junk :: l) acc (kk Kn) = zew rw (n + 1) l acc (kk Kn):=by simp [zew,zdU,List.flatMap_cons]
theorem zs3 (k v:Nat):zew rw (n + 1) (.own k v :: l) acc (kk Kn) = zjz (rw k) k (acc ++ [k % 1000]) (kk fun acc'=>zew rw (n + 1) l acc' (kk Kn)):=by
 simp only [zew,zjz,kk,List.flatMap_cons]
 rw [zdU]
 cases (rw k).kind <;> simp
theorem zlJ (k ver e z:Nat) (fz:Bool) (c:List PV):zjz ⟨ver,.sli e z fz c⟩ k acc (kk Kn) = Kn acc:=by simp [zjz,kk]
theorem zlK (k ver:Nat):zjz ⟨ver,.nil⟩ k acc (kk Kn) = Kn acc:=by simp [zjz,kk]
theorem zlL (k ver e:Nat) (c:List PV):zjz ⟨ver,.tab e c⟩ k acc (kk Kn) = Kn (acc ++ zrx k c):=(rfl)
theorem zjA [zaj] (k:Nat) (p:List Nat):zrx k (zay k p) = []:=by
 unfold zrx zay
 rw [List.flatMap_eq_nil_iff]
 intro q hq
 obtain ⟨j,_,rfl⟩:=List.mem_map.1 hq
 simp [zaa]
theorem zoJ (rw':Nat→Row) (k m:Nat):zrx k (zaP rw' k 0 m) = []:=by
 unfold zrx zaP
 rw [List.flatMap_eq_nil_iff]
 intro q hq
 obtain ⟨j,_,rfl⟩:=List.mem_map.1 hq
 simp [zal]
theorem zxs (c:List PV):zew rw (n + 1) (.ag c :: l) acc (kk Kn) = zew rw n c acc (kk fun acc'=>zew rw (n + 1) l acc' (kk Kn)):=by simp [zew,zdU,List.flatMap_cons,kk]
theorem zs4 (f:FuncId) (c:List PV):zew rw (n + 1) (.clo f c :: l) acc (kk Kn) = zew rw n c acc (kk fun acc'=>zew rw (n + 1) l acc' (kk Kn)):=by simp [zew,zdU,List.flatMap_cons,kk]
theorem zs5 (k v o:Nat):zew rw (n + 1) (.ref k v o :: l) acc (kk Kn) = zjy (rw k) rw n (acc ++ [k % 1000]) (kk fun acc'=>zew rw (n + 1) l acc' (kk Kn)):=by
 simp only [zew,zjy,kk,List.flatMap_cons]
 rw [zdU]
 cases (rw k).kind <;> simp
theorem zlM (ver:Nat) (t:TypeId) (c:List PV):zjy ⟨ver,.box t c⟩ rw n acc (kk Kn) = zew rw n c acc (kk Kn):=(rfl)
theorem zlN (ver e z:Nat) (fz:Bool) (c:List PV):zjy ⟨ver,.sli e z fz c⟩ rw n acc (kk Kn) = Kn acc:=by simp [zjy,kk]
theorem zlO (ver:Nat):zjy ⟨ver,.nil⟩ rw n acc (kk Kn) = Kn acc:=by simp [zjy,kk]
end
section
variable {dst:Option Nat} {ty:TypeId} {pos:String} {af:Array Edge} {g:Option (Nat × Bool)}
theorem zs6 [zaj] (x:Operand):opK P T s ⟨dst,.move x,ty,pos,af,g⟩ K = evK (s.ev x) (kk fun p=>K (s.put dst p)):=(rfl)
theorem zfy [zaj] (t:Nat):opK P T s ⟨dst,.assign (.tmp t),ty,pos,af,g⟩ K = evK (s.sl t) (kk fun p=>K (s.put dst p)):=(rfl)
theorem zfz [zaj] (k:IntKind) (n:Int):opK P T s ⟨dst,.assign (.const (.int k n)),ty,pos,af,g⟩ K = K (s.put dst (.v (.int k n))):=(rfl)
theorem zeJ [zaj] (b:Bool):opK P T s ⟨dst,.assign (.const (.bool b)),ty,pos,af,g⟩ K = K (s.put dst (.v (.bool b))):=(rfl)
theorem zdQ [zaj] (b:ByteArray):opK P T s ⟨dst,.assign (.const (.string b)),ty,pos,af,g⟩ K = K (s.put dst (.v (.string b))):=(rfl)
theorem zfA [zaj] (cs:List Value):opK P T s ⟨dst,.assign (.const (.agg ⟨cs⟩)),ty,pos,af,g⟩ K = K (s.put dst (.ag (cs.map PV.v))):=(rfl)
def nilRow (T:Tab) (k:TK):RK:=match k with | .sli e=>.sli e (T e).size false [] | _=>.nil
theorem zlP (e:TypeId):nilRow T (.sli e) = .sli e (T e).size false []:=(rfl)
theorem zfB [zaj] (d:Nat):opK P T s ⟨some d,.assign (.const (.slice none 0 0)),ty,pos,af,g⟩ K = K (zcP s d (nilRow T (T ty).k) fun v=>.own d v):=(rfl)
theorem zs7 [zaj] (c x y:Operand):opK P T s ⟨dst,.pick c x y,ty,pos,af,g⟩ K = zAS (s.ev c) (kk (evK (s.ev x) (kk fun p=>K (s.put dst p)))) (kk (evK (s.ev y) (kk fun p=>K (s.put dst p)))):=(rfl)
theorem zxt [zaj] (op:BinOp) (t t2:TypeId) (x y:Operand):opK P T s ⟨dst,.binOp op t x y t2,ty,pos,af,g⟩ K = zcS T op t (s.ev x) (s.ev y) (kk fun p=>K (s.put dst p)):=(rfl)
theorem zB9 [zaj] (op:UnOp) (t:TypeId) (x:Operand):opK P T s ⟨dst,.unOp op t x,ty,pos,af,g⟩ K = unK op (s.ev x) (kk fun p=>K (s.put dst p)):=(rfl)
theorem zjB [zaj] (a b:TypeId) (x:Operand):opK P T s ⟨dst,.convert a b x,ty,pos,af,g⟩ K = zfw T s.rw a b (s.ev x) (kk fun p=>K (s.put dst p)):=(rfl)
theorem zs8 [zaj] (t:TypeId) (x:Operand):opK P T s ⟨dst,.load t x,ty,pos,af,g⟩ K = zq7 s.rw (s.ev x) (kk fun m c off=>ldK T t m c off (kk fun p=>K (s.put dst p))):=(rfl)
theorem zgs [zaj] (t:TypeId) (x:Operand) (f:Nat):opK P T s ⟨dst,.fieldAddr t x f,ty,pos,af,g⟩ K =
 zdD T t f (kk fun o _=>zkB (s.ev x) = true∧zdk s.rw (s.ev x) (kk (evK (zdW (s.ev x) o) (kk fun p=>K (s.put dst p))))):=(rfl)
def agK (p:PV) (K:List PV→Prop):Prop:=match p with | .ag c=>K c | _=>False
theorem zCa (c:List PV) (Kc:List PV→Prop):agK (.ag c) Kc = Kc c:=(rfl)
def zHu (p:PV) (K:List PV→Prop):Prop:=match p with | .tup c=>K c | _=>False
theorem zs9 (c:List PV) (Kc:List PV→Prop):zHu (.tup c) Kc = Kc c:=(rfl)
theorem zjC [zaj] (t:TypeId) (x:Operand) (f:Nat):opK P T s ⟨dst,.field t x f,ty,pos,af,g⟩ K =
 agK (s.ev x) (kk fun c=>zdD T t f (kk fun o ft=>ldK T ft .asis c o (kk fun p=>K (s.put dst p)))):=by
 show zdD T t f (fun o ft=>(match s.ev x with | .ag c=>ldK T ft .asis c o fun p=>K (s.put dst p) | _=>False)) = _
 unfold zdD agK kk
 cases s.ev x
 case ag c=>rfl
 all_goals
  refine propext ⟨fun h=>?_,fun h=>h.elim⟩
  obtain ⟨_,h⟩:=h
  split at h
  ·split at h
   ·exact h.2.elim
   ·exact h.elim
  ·exact h.elim
theorem zgt [zaj] (t:TypeId) (x i:Operand):opK P T s ⟨dst,.indexAddr t x i,ty,pos,af,g⟩ K = zbj T s.rw t (s.ev x) (s.ev i) (kk fun p=>K (s.put dst p)):=(rfl)
def zta (T:Tab) (t:TypeId) (x i:PV) (K:PV→Prop):Prop:=0 < (T t).size∧(match (T t).k,x,i with
 | .str,.v (.string s),.v (.int _ n)=>0 ≤ n∧n.toNat < s.size∧K (.v (.int .u8 ((s.data.toList.getD n.toNat 0).toNat:Int)))
 | .arr len e,.ag c,.v (.int _ n)=>0 ≤ n∧n < len∧ldK T e .asis c (n.toNat * (T e).size) K
 | _,_,_=>False)
theorem zoK [zaj] (t:TypeId) (x i:Operand):opK P T s ⟨dst,.index t x i,ty,pos,af,g⟩ K = zta T t (s.ev x) (s.ev i) (kk fun p=>K (s.put dst p)):=(rfl)
theorem zjD [zaj] (x:Operand) (i:Nat):opK P T s ⟨dst,.extract x i,ty,pos,af,g⟩ K = zHu (s.ev x) (kk fun ps=>i < ps.length∧evK (ps.getD i .junk) (kk fun p=>K (s.put dst p))):=(rfl)
theorem zhO [zaj] (x:Operand):opK P T s ⟨dst,.nilCheck x,ty,pos,af,g⟩ K = zdk s.rw (s.ev x) (kk (evK (s.ev x) (kk fun p=>K (s.put dst p)))):=(rfl)
theorem zhP [zaj] (f:FuncId) (caps:Array Operand):opK P T s ⟨dst,.makeFunc (.func f) #[] caps,ty,pos,af,g⟩ K = K (s.put dst (.clo f (caps.toList.map s.ev))):=by
 show (#[] = (#[]:Array Operand)∧K (s.put dst (.clo f (caps.toList.map s.ev)))) = _
 simp
theorem zxu [zaj] (x:Operand) (t:TypeId):opK P T s ⟨dst,.call ⟨.builtin .len,#[x],#[t]⟩,ty,pos,af,g⟩ K = zzh T s.rw t (s.ev x) (kk fun p=>K (s.put dst p)):=(rfl)
theorem zxv [zaj] (x y:Operand) (ts:Array TypeId):opK P T s ⟨dst,.call ⟨.builtin .max,#[x,y],ts⟩,ty,pos,af,g⟩ K = zcE true (s.ev x) (s.ev y) (kk fun p=>K (s.put dst p)):=(rfl)
theorem zxw [zaj] (x y:Operand) (ts:Array TypeId):opK P T s ⟨dst,.call ⟨.builtin .min,#[x,y],ts⟩,ty,pos,af,g⟩ K = zcE false (s.ev x) (s.ev y) (kk fun p=>K (s.put dst p)):=(rfl)
theorem zlQ [zaj] (d:Nat) (x y:Operand) (t t2:TypeId):opK P T s ⟨some d,.call ⟨.builtin .append,#[x,y],#[t,t2]⟩,ty,pos,af,g⟩ K = zku T s d t t2 (s.ev x) (s.ev y) (kk K):=(rfl)
def zAm (p:PV) (K:FuncId→List PV→Prop):Prop:=match p with | .clo g caps=>K g caps | _=>False
theorem ztb (g:FuncId) (c:List PV) (Kc:FuncId→List PV→Prop):zAm (.clo g c) Kc = Kc g c:=(rfl)
def zjE [zaj] (P:Program) (f:FuncId) (args:List PV) (K:RV→Prop) (M:Prop):Prop:=(∃ rv,AC P f args rv∧K rv) ∨ M
theorem zag [zaj] {f:FuncId} {args:List PV} {Kr:RV→Prop} {u:Dm Kr} {rv:RV} {M:Prop} (h:AC P f args rv) (hk:Kr rv):zjE P f args (kk Kr u) M:=.inl ⟨rv,h,hk⟩
def zwi [zaj] (P:Program) (f:FuncId) (args raw:List PV) (dst:Option Nat) (s:St) (K:St→Prop):Prop:=zHT P s f raw dst K ∨ zHr P s f raw dst K ∨ zDA P s f args dst K ∨ askG P s f raw dst K
theorem zDh [zaj] {f:FuncId} {args raw lent:List PV} {k v e e2:Nat} {p:List Nat} {rows rows':List (List PV)} {res:TR} {Ka:RV→Prop} {dst:Option Nat} {us:Dm s} {u:Dm K} (h:AT P f args e e2 rows rows' res)
 (hg:GiveL [(k,v)] raw args) (ht:TabIs s.rw k v e e2 p rows) (hn:p.Nodup)
 (hk:∀ p':List Nat,p'.Perm p→res.next (s.tabbed k v e e2 p' rows') k v dst K):zjE P f lent Ka (zwi P f lent raw dst (kk s us) (kk K u)) :=
 .inr (.inr (.inl ⟨k,v,e,e2,p,rows,rows',args,res,h,hg,ht,hn,hk⟩))
theorem zDi [zaj] {f:FuncId} {args raw lent:List PV} {R0:Nat→Row} {post:(Nat→Row)→PV→Prop} {Ka:RV→Prop} {dst:Option Nat} {us:Dm s} {u:Dm K} (h:AG P f args R0 post) (rho:Nat→Option Nat) (Ln:Nat→Prop) (hl:GvL rho Ln R0 s.rw args raw) (hg:Give rho Ln R0 s.rw)
 (hk:∀ R1 p,post R1 p→∃ (rho1:Nat→Option Nat) (nv:Nat→Nat) (nl:Bool),Back rho rho1 R1 nv nl Ln R0 s.rw∧∀ S:St,After s S dst rho1 nv nl R1 p→K S):zjE P f lent Ka (zwi P f lent raw dst (kk s us) (kk K u)) :=
 .inr (.inr (.inr (.inr ⟨args,R0,post,rho,Ln,h,hl,hg,hk⟩)))
def zhf (s:St) (l:List Operand):List PV:=l.map fun x=>zcr s.rw zfv (s.ev x)
theorem zoL:zhf s [] = []:=(rfl)
theorem zlR (x:Operand) (l:List Operand):zhf s (x :: l) = zcr s.rw 3 (s.ev x) :: zhf s l:=(rfl)
def zxx (s:St) (l:List Operand):List PV:=l.map s.ev
theorem ztc:zxx s [] = []:=(rfl)
theorem zoM (x:Operand) (l:List Operand):zxx s (x :: l) = s.ev x :: zxx s l:=(rfl)
theorem zAT [zaj] (f:Operand) (args:List Operand) (Kr:RV→Prop):zee P s.rw s.ev f ⟨args⟩ Kr = zAm (s.ev f) (kk fun g caps=>zjE P g (zhf s args ++ caps.map (zcr s.rw 3)) (kk Kr) False):=by
 unfold zee zAm zjE
 cases s.ev f <;> first | rfl | simp [kk,zhf,zfv]
theorem ztd [zaj] (f:Operand) (args:List Operand) (Kr:RV→Prop) (dst:Option Nat):((zee P s.rw s.ev f ⟨args⟩ Kr ∨ zy0 P s f ⟨args⟩ dst K) ∨ (match s.ev f with
 | .clo g caps=>zHr P s g (args.map s.ev ++ caps) dst K ∨ zDA P s g ((args.map fun x=>zcr s.rw zfv (s.ev x)) ++ caps.map (zcr s.rw zfv)) dst K ∨ askG P s g (args.map s.ev ++ caps) dst K
 | _=>False)) =
 zAm (s.ev f) (kk fun g caps=>zjE P g (zhf s args ++ caps.map (zcr s.rw 3)) (kk Kr) (zwi P g (zhf s args ++ caps.map (zcr s.rw 3)) (zxx s args ++ caps) dst (kk s) (kk K))):=by
 unfold zee zy0 zAm
 cases s.ev f <;> first | (simp;done) | skip
 unfold kk zjE zwi
 exact propext or_assoc
theorem zoN [zaj] (d:Nat) (f:Operand) (args:List Operand) (ts:Array TypeId):zd2 P T s ⟨some d,.call ⟨.value f,⟨args⟩,ts⟩,ty,pos,af,g⟩ K =
 zAm (s.ev f) (kk fun g caps=>zjE P g (zhf s args ++ caps.map (zcr s.rw 3)) (kk fun rv=>K (zam s d rv)) (zwi P g (zhf s args ++ caps.map (zcr s.rw 3)) (zxx s args ++ caps) (some d) (kk s) (kk K))):=ztd (P:=P) f args _ _
theorem zfC [zaj] (f:Operand) (args:List Operand) (ts:Array TypeId):zd2 P T s ⟨none,.call ⟨.value f,⟨args⟩,ts⟩,ty,pos,af,g⟩ K =
 zAm (s.ev f) (kk fun g caps=>zjE P g (zhf s args ++ caps.map (zcr s.rw 3)) (kk fun _=>K s) (zwi P g (zhf s args ++ caps.map (zcr s.rw 3)) (zxx s args ++ caps) none (kk s) (kk K))):=ztd (P:=P) f args _ _
theorem zoO [zaj] (b:Builtin) (args:Array Operand) (ts:Array TypeId) (h:(match b with | .append=>false | _=>true) = true):zd2 P T s ⟨dst,.call ⟨.builtin b,args,ts⟩,ty,pos,af,g⟩ K = opK P T s ⟨dst,.call ⟨.builtin b,args,ts⟩,ty,pos,af,g⟩ K:=by
 cases b <;> first | rfl | cases h
theorem zoP [zaj] (d:Nat) (t:TypeId):opK P T s ⟨some d,.alloc t,ty,pos,af,g⟩ K = (0 < (T t).size∧K (zcP s d (.box t ((T t).zero.map PV.v)) fun v=>.ref d v 0)):=(rfl)
theorem zxy [zaj] (d:Nat) (t:TypeId) (x:Operand):opK P T s ⟨some d,.box t x,ty,pos,af,g⟩ K = zaT s.rw (s.ev x) (kk fun c=>K (zcP s d (.box t c) fun v=>.ref d v 0)):=(rfl)
def evs (s:St) (l:List (Nat × Operand)):List PV:=l.map fun x=>s.ev x.2
theorem zxz:evs s [] = []:=(rfl)
theorem zte (n:Nat) (x:Operand) (l:List (Nat × Operand)):evs s ((n,x) :: l) = s.ev x :: evs s l:=(rfl)
def zxA (T:Tab) (s:St) (d:Nat) (kd:TK) (z n:Nat) (parts:List (Nat × Operand)) (K:St→Prop):Prop :=
 0 < z∧match kd with
 | .sli e=>0 < (T e).size∧n = parts.length∧znx 0 parts = true∧n * (T e).size ≤ 16777216 ∧
  zli s.rw (T e).size (evs s parts) fun c f=>d ∉ f∧K (((s.freeze f).row d ⟨(s.rw d).ver + 1,.sli e (T e).size false c⟩).put (some d) (.own d ((s.rw d).ver + 1)))
 | _=>False
theorem zfD [zaj] (d:Nat) (t:TypeId) (n:Nat) (parts:List (Nat × Operand)):opK P T s ⟨some d,.buildSlice t n ⟨parts⟩,ty,pos,af,g⟩ K = zxA T s d (T t).k (T t).size n parts (kk K):=(rfl)
def lit (c:List PV):List PV:=c
def zFY (a:List Int) (c:List PV):List PV:=iL a ++ c
def zFZ (a:List ByteArray) (c:List PV):List PV:=sL a ++ c
def zF0 (a:List Bool) (c:List PV):List PV:=bL a ++ c
def zF1 (a:List (List Int)) (c:List PV):List PV:=iLL a ++ c
theorem zng:lit [] = []:=(rfl)
theorem znh (n:Int) (l:List PV):lit (.v (.int .i64 n) :: l) = zFY [n] l:=(rfl)
theorem zni (n:ByteArray) (l:List PV):lit (.v (.string n) :: l) = zFZ [n] l:=(rfl)
theorem ziP (n:Bool) (l:List PV):lit (.v (.bool n) :: l) = zF0 [n] l:=(rfl)
theorem ztf (n:List Int) (l:List PV):lit (.sl false 1 (iL n) :: l) = zF1 [n] l:=(rfl)
theorem ziQ (a:List Int):zFY a [] = iL a:=List.append_nil _
theorem ziR (a:List ByteArray):zFZ a [] = sL a:=List.append_nil _
theorem ziS (a:List Bool):zF0 a [] = bL a:=List.append_nil _
theorem ziT (a:List (List Int)):zF1 a [] = iLL a:=List.append_nil _
theorem zgu (a:List Int) (n:Int) (l:List PV):zFY a (.v (.int .i64 n) :: l) = zFY (a ++ [n]) l:=by simp [zFY,iL]
theorem zgv (a:List ByteArray) (n:ByteArray) (l:List PV):zFZ a (.v (.string n) :: l) = zFZ (a ++ [n]) l:=by simp [zFZ,sL]
theorem zgw (a:List Bool) (n:Bool) (l:List PV):zF0 a (.v (.bool n) :: l) = zF0 (a ++ [n]) l:=by simp [zF0,bL]
theorem zgx (a:List (List Int)) (n:List Int) (l:List PV):zF1 a (.sl false 1 (iL n) :: l) = zF1 (a ++ [n]) l:=by simp [zF1,iLL]
theorem zlS (d e n:Nat) (parts:List (Nat × Operand)) (h2:(T e).size = 1) :
 zxA T s d (.sli e) 1 n parts K = (n = parts.length∧znx 0 parts = true∧n ≤ 16777216∧zli s.rw 1 (evs s parts) (kk fun c f=>d ∉ f∧K (((s.freeze f).row d ⟨(s.rw d).ver + 1,.sli e 1 false (lit c)⟩).put (some d) (.own d ((s.rw d).ver + 1))))):=by
 unfold zxA kk
 simp only [h2,Nat.one_pos,true_and,Nat.mul_one]
 rfl
theorem zoQ (i:Nat):znx i [] = true:=(rfl)
theorem zlT (i j:Nat) (x:Operand) (l:List (Nat × Operand)):znx i ((j,x) :: l) = (j == i && znx (i + 1) l):=(rfl)
theorem zoR (rw:Nat→Row) (es:Nat) (Kp:List PV→List Nat→Prop):zli rw es [] (kk Kp) = Kp [] []:=(rfl)
theorem zlU (rw:Nat→Row) (es:Nat) (p:PV) (ps:List PV) (Kp:List PV→List Nat→Prop):zli rw es (p :: ps) (kk Kp) = zcO rw p (kk fun c f=>c.length = es∧zli rw es ps (kk fun cs fs=>Kp (c ++ cs) (f ++ fs))):=(rfl)
theorem zoS [zaj] (t:TypeId) (ad x:Operand):opK P T s ⟨none,.store t ad x,ty,pos,af,g⟩ K = zqq T s t (s.ev ad) (s.ev x) (kk K):=by
 show ((none:Option Nat) = none∧zqq T s t (s.ev ad) (s.ev x) K) = _
 simp [kk]
def zDj (T:Tab) (t:TypeId) (l c:PV) (K:TypeId→List PV→Prop):Prop :=
 match (T t).k,l,c with
 | .sli e,.v (.int _ nl),.v (.int _ nc)=>0 < (T t).size∧(T e).size = 1∧(match (T e).zero with
  | [z]=>0 ≤ nl∧nl ≤ nc∧((T e).bytes:Int) * nc ≤ 281474976710656∧nc ≤ 9223372036854775807∧K e (List.replicate nl.toNat (.v z))
  | _=>False)
 | _,_,_=>False
theorem ztg [zaj] (d:Nat) (t:TypeId) (l c:Operand):opK P T s ⟨some d,.makeSlice t l c,ty,pos,af,g⟩ K = zDj T t (s.ev l) (s.ev c) (kk fun e cs=>K (zcP s d (.sli e 1 false cs) fun v=>.own d v)):=by
 unfold zDj kk
 simp only [opK]
 generalize (T t).k = a
 generalize s.ev l = b
 generalize s.ev c = e
 cases a <;> first | rfl | skip
 cases b <;> first | rfl | skip
 rename_i v
 cases v <;> first | rfl | skip
 cases e <;> first | rfl | skip
 rename_i v
 cases v <;> rfl
def zDk (T:Tab) (kd:TK) (z:Nat) (l c:PV) (K:TypeId→List PV→Prop):Prop :=
 match kd,l,c with
 | .sli e,.v (.int _ nl),.v (.int _ nc)=>0 < z∧(T e).size = 1∧(match (T e).zero with
  | [z]=>0 ≤ nl∧nl ≤ nc∧((T e).bytes:Int) * nc ≤ 281474976710656∧nc ≤ 9223372036854775807∧K e (List.replicate nl.toNat (.v z))
  | _=>False)
 | _,_,_=>False
theorem zxB (t:TypeId) (l c:PV) (Kc:TypeId→List PV→Prop):zDj T t l c Kc = zDk T (T t).k (T t).size l c Kc:=(rfl)
def zDl (zs:List Value) (K:Value→Prop):Prop:=match zs with | [z]=>K z | _=>False
theorem zoT (z:Value) (Kz:Value→Prop):zDl [z] Kz = Kz z:=(rfl)
theorem zoU {e:TypeId} {k1 k2:IntKind} {nl nc:Int} {Kc:TypeId→List PV→Prop} (h2:(T e).size = 1) :
 zDk T (.sli e) 1 (.v (.int k1 nl)) (.v (.int k2 nc)) Kc = zDl (T e).zero (kk fun z=>0 ≤ nl∧nl ≤ nc∧((T e).bytes:Int) * nc ≤ 281474976710656∧nc ≤ 9223372036854775807∧Kc e (List.replicate nl.toNat (.v z))):=by
 unfold zDk zDl kk
 simp only [h2,Nat.one_pos,true_and]
def zEq (T:Tab) (s:St) (t:TypeId) (x:PV) (lo hi mx:Option Operand) (K:List Nat→PV→Prop):Prop :=
 match x with
 | .own k ver=>(match (s.rw k).kind with
  | .sli _ _ false _=>zbt T (s.freeze [k]).rw s.ev t (.own k ver) lo hi mx (K [k])
  | _=>zbt T s.rw s.ev t (.own k ver) lo hi mx (K []))
 | x=>zbt T s.rw s.ev t x lo hi mx (K [])
theorem zoV [zaj] (t:TypeId) (x:Operand) (lo hi mx:Option Operand):opK P T s ⟨dst,.slice t x lo hi mx,ty,pos,af,g⟩ K = zEq T s t (s.ev x) lo hi mx (kk fun fz p=>K ((s.freeze fz).put dst p)):=by
 have e:s.freeze [] = s:=St.freeze_nil s
 have h:∀ q,s.ev x = q→(match q with
  | .own k _=>(match (s.rw k).kind with
   | .sli _ _ false _=>zip T (s.freeze [k]).rw s.ev (.slice t x lo hi mx) fun p=>K ((s.freeze [k]).put dst p)
   | _=>zip T s.rw s.ev (.slice t x lo hi mx) fun p=>K (s.put dst p))
  | _=>zip T s.rw s.ev (.slice t x lo hi mx) fun p=>K (s.put dst p)) = zEq T s t q lo hi mx fun fz p=>K ((s.freeze fz).put dst p):=by
  intro q hq
  unfold zEq
  cases q <;> simp only [zip,hq,e]
 exact h _ rfl
end
def zEr (s:St) (l:List (Nat × Operand)):List (Nat × PV):=l.map fun x=>(x.1,s.ev x.2)
theorem zth:zEr s [] = []:=(rfl)
theorem zoW (n:Nat) (x:Operand) (l:List (Nat × Operand)):zEr s ((n,x) :: l) = (n,s.ev x) :: zEr s l:=(rfl)
def zgy (T:Tab):List (Nat × TypeId)→Prop | []=>True | x :: fs=>0 < (T x.2).size∧zgy T fs
theorem zlV:zgy T [] = True:=(rfl)
theorem zjF (o:Nat) (t:TypeId) (fs:List (Nat × TypeId)):zgy T ((o,t) :: fs) = (0 < (T t).size∧zgy T fs):=(rfl)
theorem zxC:∀ fs:List (Nat × TypeId),(∀ x ∈ fs,0 < (T x.2).size) = zgy T fs:=by
 intro fs
 induction fs with
 | nil=>simp [zgy]
 | cons x fs ih=>rw [zgy,← ih];simp
def zF2 (T:Tab) (rw:Nat→Row) (kd:TK) (z:Nat) (zs:List Value) (pp:List (Nat × PV)) (K:PV→Prop):Prop :=
 0 < z∧match kd with
 | .struct fs=>zgy T fs∧zc4 T rw fs pp (zs.map PV.v) fun c=>K (.ag c)
 | _=>False
theorem zCb [zaj] (t:TypeId) (parts:List (Nat × Operand)) (Kp:PV→Prop):zfV T s.rw s.ev t ⟨parts⟩ Kp = zF2 T s.rw (T t).k (T t).size (T t).zero (zEr s parts) (kk Kp):=by
 unfold zfV zF2 kk
 cases (T t).k <;> first | rfl | skip
 simp only [zxC]
 rfl
theorem zjG (rw:Nat→Row) (fs:List (Nat × TypeId)) (z:Nat) (zs:List Value) (pp:List (Nat × PV)) (Kp:PV→Prop) :
 zF2 T rw (.struct fs) z zs pp (kk Kp) = (0 < z∧zgy T fs∧zc4 T rw fs pp (zs.map PV.v) (kk fun c=>Kp (.ag c))):=(rfl)
theorem zoX (rw:Nat→Row) (fs:List (Nat × TypeId)) (c:List PV) (Kc:List PV→Prop):zc4 T rw fs [] c (kk Kc) = Kc c:=(rfl)
def zHv (T:Tab) (rw:Nat→Row) (fs:List (Nat × TypeId)) (x:Option (Nat × TypeId)) (p:PV) (rest:List (Nat × PV)) (cells:List PV) (Kc:List PV→Prop):Prop :=
 match x with
 | some (off,ft)=>zaT rw p fun c=>c.length = (T ft).size∧off + c.length ≤ cells.length∧zc4 T rw fs rest (spl cells off c) Kc
 | none=>False
theorem zlW (rw:Nat→Row) (fs:List (Nat × TypeId)) (i:Nat) (p:PV) (rest:List (Nat × PV)) (c:List PV) (Kc:List PV→Prop):zc4 T rw fs ((i,p) :: rest) c (kk Kc) = zHv T rw fs fs[i]? p rest c (kk Kc):=by
 unfold zHv kk
 rw [zc4]
 cases fs[i]? <;> rfl
theorem zoY (rw:Nat→Row) (fs:List (Nat × TypeId)) (off:Nat) (ft:TypeId) (p:PV) (rest:List (Nat × PV)) (cells:List PV) (Kc:List PV→Prop) :
 zHv T rw fs (some (off,ft)) p rest cells (kk Kc) = zaT rw p (kk fun c=>c.length = (T ft).size∧off + c.length ≤ cells.length∧zc4 T rw fs rest (spl cells off c) (kk Kc)):=(rfl)
section
variable {dst:Option Nat} {ty:TypeId} {pos:String} {af:Array Edge} {g:Option (Nat × Bool)}
theorem zoZ [zaj] (t:TypeId) (parts:List (Nat × Operand)):opK P T s ⟨dst,.build t ⟨parts⟩,ty,pos,af,g⟩ K = zF2 T s.rw (T t).k (T t).size (T t).zero (zEr s parts) (kk fun p=>K (s.put dst p)):=by
 rw [← zCb];rfl
def ncD (rw:Nat→Row) (kd:TK) (z:Nat) (x:PV) (Kb:Bool→Prop):Prop:=0 < z∧match kd with | .sli _=>slK rw x fun _ _ c=>Kb false∧(c = []→Kb true) | _=>False
theorem zjH [zaj] (t t2:TypeId) (x:Operand):zd2 P T s ⟨dst,.binOp .eql t x (.const (.slice none 0 0)) t2,ty,pos,af,g⟩ K = ncD s.rw (T t).k (T t).size (s.ev x) (kk fun b=>K (s.put dst (.v (.bool b)))):=(rfl)
theorem zjI [zaj] (t t2:TypeId) (x:Operand):zd2 P T s ⟨dst,.binOp .neq t x (.const (.slice none 0 0)) t2,ty,pos,af,g⟩ K = ncD s.rw (T t).k (T t).size (s.ev x) (kk fun b=>K (s.put dst (.v (.bool !b)))):=(rfl)
theorem zCc (rw:Nat→Row) (e z z':Nat) (fr:Bool) (c:List PV) (Kb:Bool→Prop):ncD rw (.sli e) z (.sl fr z' c) (kk Kb) = (0 < z∧Kb false∧(c = []→Kb true)):=(rfl)
def zvh (r:Row) (ver:Nat) (Kb:Bool→Prop):Prop:=r.ver = ver∧match r.kind with | .nil=>Kb false∧Kb true | .sli _ _ _ c=>Kb false∧(c = []→Kb true) | _=>False
theorem zxD (rw:Nat→Row) (e z j v:Nat) (Kb:Bool→Prop):ncD rw (.sli e) z (.own j v) (kk Kb) = (0 < z∧zvh (rw j) v (kk Kb)):=by
 unfold ncD zvh kk slK
 dsimp only
 cases (rw j).kind <;> simp
theorem zo0 (ver e sz:Nat) (fz:Bool) (c:List PV) (Kb:Bool→Prop):zvh ⟨ver,.sli e sz fz c⟩ ver (kk Kb) = (Kb false∧(c = []→Kb true)):=by simp [zvh,kk]
theorem zo1 (ver:Nat) (Kb:Bool→Prop):zvh ⟨ver,.nil⟩ ver (kk Kb) = (Kb false∧Kb true):=by simp [zvh,kk]
theorem zti [zaj] (x:Operand):zd2 P T s ⟨dst,.move x,ty,pos,af,g⟩ K = opK P T s ⟨dst,.move x,ty,pos,af,g⟩ K:=(rfl)
theorem zlX [zaj] (x:Operand):zd2 P T s ⟨dst,.assign x,ty,pos,af,g⟩ K = opK P T s ⟨dst,.assign x,ty,pos,af,g⟩ K:=(rfl)
theorem ztj [zaj] (c x y:Operand):zd2 P T s ⟨dst,.pick c x y,ty,pos,af,g⟩ K = opK P T s ⟨dst,.pick c x y,ty,pos,af,g⟩ K:=(rfl)
theorem zCd [zaj] (op:UnOp) (t:TypeId) (x:Operand):zd2 P T s ⟨dst,.unOp op t x,ty,pos,af,g⟩ K = opK P T s ⟨dst,.unOp op t x,ty,pos,af,g⟩ K:=(rfl)
theorem zjJ [zaj] (a b:TypeId) (x:Operand):zd2 P T s ⟨dst,.convert a b x,ty,pos,af,g⟩ K = opK P T s ⟨dst,.convert a b x,ty,pos,af,g⟩ K:=(rfl)
theorem ztk [zaj] (t:TypeId) (x:Operand):zd2 P T s ⟨dst,.load t x,ty,pos,af,g⟩ K = opK P T s ⟨dst,.load t x,ty,pos,af,g⟩ K:=(rfl)
theorem zgz [zaj] (t:TypeId) (x:Operand) (f:Nat):zd2 P T s ⟨dst,.fieldAddr t x f,ty,pos,af,g⟩ K = opK P T s ⟨dst,.fieldAddr t x f,ty,pos,af,g⟩ K:=(rfl)
theorem zo2 [zaj] (t:TypeId) (x:Operand) (f:Nat):zd2 P T s ⟨dst,.field t x f,ty,pos,af,g⟩ K = opK P T s ⟨dst,.field t x f,ty,pos,af,g⟩ K:=(rfl)
theorem zgA [zaj] (t:TypeId) (x i:Operand):zd2 P T s ⟨dst,.indexAddr t x i,ty,pos,af,g⟩ K = opK P T s ⟨dst,.indexAddr t x i,ty,pos,af,g⟩ K:=(rfl)
theorem zo3 [zaj] (t:TypeId) (x i:Operand):zd2 P T s ⟨dst,.index t x i,ty,pos,af,g⟩ K = opK P T s ⟨dst,.index t x i,ty,pos,af,g⟩ K:=(rfl)
theorem zjK [zaj] (x:Operand) (i:Nat):zd2 P T s ⟨dst,.extract x i,ty,pos,af,g⟩ K = opK P T s ⟨dst,.extract x i,ty,pos,af,g⟩ K:=(rfl)
theorem zhQ [zaj] (x:Operand):zd2 P T s ⟨dst,.nilCheck x,ty,pos,af,g⟩ K = opK P T s ⟨dst,.nilCheck x,ty,pos,af,g⟩ K:=(rfl)
theorem zhR [zaj] (f:Fn) (fi caps:Array Operand):zd2 P T s ⟨dst,.makeFunc f fi caps,ty,pos,af,g⟩ K = opK P T s ⟨dst,.makeFunc f fi caps,ty,pos,af,g⟩ K:=(rfl)
theorem zo4 [zaj] (t:TypeId):zd2 P T s ⟨dst,.alloc t,ty,pos,af,g⟩ K = opK P T s ⟨dst,.alloc t,ty,pos,af,g⟩ K:=(rfl)
theorem zxE [zaj] (t:TypeId) (x:Operand):zd2 P T s ⟨dst,.box t x,ty,pos,af,g⟩ K = opK P T s ⟨dst,.box t x,ty,pos,af,g⟩ K:=(rfl)
theorem zlY [zaj] (t:TypeId) (n:Nat):zd2 P T s ⟨dst,.buildSlice t n ⟨[]⟩,ty,pos,af,g⟩ K = opK P T s ⟨dst,.buildSlice t n ⟨[]⟩,ty,pos,af,g⟩ K:=(rfl)
theorem zlZ [zaj] (t:TypeId) (n:Nat) (p q:Nat × Operand) (l:List (Nat × Operand)):zd2 P T s ⟨dst,.buildSlice t n ⟨p :: q :: l⟩,ty,pos,af,g⟩ K = opK P T s ⟨dst,.buildSlice t n ⟨p :: q :: l⟩,ty,pos,af,g⟩ K:=(rfl)
def zCe (T:Tab) (s:St) (d:Nat) (t:TypeId) (n i:Nat) (p:PV) (Kt:St→Prop) (A:Prop):Prop :=
 match p with
 | .own k ver=>(match (s.rw k).kind with | .tab _ _=>zko T s d t n i k ver Kt | .sli _ _ _ _=>A ∨ zko T s d t n i k ver Kt | _=>A)
 | _=>A
theorem zl0 [zaj] (d:Nat) (t:TypeId) (n i:Nat) (x:Operand):zd2 P T s ⟨some d,.buildSlice t n ⟨[(i,x)]⟩,ty,pos,af,g⟩ K =
 zCe T s d t n i (s.ev x) (kk K) (kk (opK P T s ⟨some d,.buildSlice t n ⟨[(i,x)]⟩,ty,pos,af,g⟩ K)):=by
 unfold zd2 zCe kk
 dsimp only
 cases s.ev x <;> rfl
theorem zCf (d:Nat) (t:TypeId) (n i:Nat) (x:Value) (A:Prop):zCe T s d t n i (.v x) (kk K) (kk A) = A:=(rfl)
theorem zxF (d:Nat) (t:TypeId) (n i:Nat) (fr:Bool) (z:Nat) (c:List PV) (A:Prop):zCe T s d t n i (.sl fr z c) (kk K) (kk A) = A:=(rfl)
theorem zxG (d:Nat) (t:TypeId) (n i:Nat) (c:List PV) (A:Prop):zCe T s d t n i (.ag c) (kk K) (kk A) = A:=(rfl)
theorem zo5 (d:Nat) (t:TypeId) (n i:Nat) (fr:Bool) (c:List PV) (o:Nat) (A:Prop):zCe T s d t n i (.eref fr c o) (kk K) (kk A) = A:=(rfl)
theorem ztl (d:Nat) (t:TypeId) (n i:Nat) (j v o:Nat) (A:Prop):zCe T s d t n i (.ref j v o) (kk K) (kk A) = A:=(rfl)
def ztm (T:Tab) (r:Row) (s:St) (d:Nat) (t:TypeId) (n i k ver:Nat) (Kt:St→Prop) (A:Prop):Prop:=match r.kind with | .tab _ _=>zko T s d t n i k ver Kt | .sli _ _ _ _=>A ∨ zko T s d t n i k ver Kt | _=>A
theorem ztn (d:Nat) (t:TypeId) (n i k ver:Nat) (A:Prop):zCe T s d t n i (.own k ver) (kk K) (kk A) = ztm T (s.rw k) s d t n i k ver (kk K) (kk A):=(rfl)
theorem zl1 (d:Nat) (t:TypeId) (n i k ver v:Nat) (A:Prop):ztm T ⟨v,.nil⟩ s d t n i k ver (kk K) (kk A) = A:=(rfl)
def zhg (T:Tab) (s:St) (d:Nat) (kd:TK) (z n i k ver:Nat) (r:Row) (K:St→Prop):Prop:=0 < z∧n = 1∧i = 0∧r.ver = ver∧r.kind.slice = true∧d ≠ k∧(match kd with
 | .sli e=>(T e).size = 1∧K ((s.row d ⟨(s.rw d).ver + 1,.tab e [.own k ver]⟩).put (some d) (.own d ((s.rw d).ver + 1)))
 | _=>False)
def orB (A B:Prop):Prop:=A ∨ B
theorem zHw {A B:Prop} {u:Dm A} {v:Dm B} (h:A):orB (kk A u) (kk B v):=.inl h
theorem zF3 {A B:Prop} {u:Dm A} {v:Dm B} (h:B):orB (kk A u) (kk B v):=.inr h
theorem zl2 (d:Nat) (t:TypeId) (n i k ver v e z:Nat) (fz:Bool) (c:List PV) (A:Prop):ztm T ⟨v,.sli e z fz c⟩ s d t n i k ver (kk K) (kk A) = orB (kk A) (kk (zhg T s d (T t).k (T t).size n i k ver (s.rw k) K)):=(rfl)
theorem zjL (d e k ver e' z:Nat) (fz:Bool) (c:List PV) (h:(T e).size = 1):zhg T s d (.sli e) 1 1 0 k ver ⟨ver,.sli e' z fz c⟩ K = (d ≠ k∧K ((s.row d ⟨(s.rw d).ver + 1,.tab e [.own k ver]⟩).put (some d) (.own d ((s.rw d).ver + 1)))):=by
 simp only [zhg,h,RK.slice,Nat.one_pos,true_and]
theorem zl3 (d:Nat) (t:TypeId) (n i k ver v e:Nat) (c:List PV) (A:Prop):ztm T ⟨v,.tab e c⟩ s d t n i k ver (kk K) (kk A) = zhg T s d (T t).k (T t).size n i k ver (s.rw k) K:=(rfl)
theorem zjM (d e k ver e':Nat) (c:List PV) (h:(T e).size = 1):zhg T s d (.sli e) 1 1 0 k ver ⟨ver,.tab e' c⟩ K = (d ≠ k∧K ((s.row d ⟨(s.rw d).ver + 1,.tab e [.own k ver]⟩).put (some d) (.own d ((s.rw d).ver + 1)))):=by
 simp only [zhg,h,RK.slice,Nat.one_pos,true_and]
def zCg (T:Tab) (s:St) (d:Nat) (t t2:TypeId) (x:PV) (y:PV) (Kt:St→Prop) (A:Prop):Prop :=
 match x with
 | .own k ver=>(match (s.rw k).kind with | .tab e c=>zHq T s d t t2 k ver e c y Kt | _=>A)
 | _=>A
def zEs (T:Tab) (s:St) (d:Nat) (t t2:TypeId) (x:PV) (y:PV) (Kt:St→Prop) (A:Prop):Prop :=
 match y with
 | .v (.string b)=>zrS T s d t t2 x b Kt
 | _=>zCg T s d t t2 x y Kt A
theorem zl4 [zaj] (d:Nat) (x y:Operand) (t t2:TypeId):zd2 P T s ⟨some d,.call ⟨.builtin .append,⟨[x,y]⟩,⟨[t,t2]⟩⟩,ty,pos,af,g⟩ K =
 zEs T s d t t2 (s.ev x) (s.ev y) (kk K) (kk (opK P T s ⟨some d,.call ⟨.builtin .append,⟨[x,y]⟩,⟨[t,t2]⟩⟩,ty,pos,af,g⟩ K)):=by
 unfold zd2 zEs zCg kk
 dsimp only
 cases s.ev y with
 | v z=>cases z <;> first | rfl | (cases s.ev x <;> rfl)
 | _=>cases s.ev x <;> rfl
theorem zto (d:Nat) (t t2:TypeId) (x:PV) (k ver:Nat) (A:Prop):zEs T s d t t2 x (.own k ver) (kk K) (kk A) = zCg T s d t t2 x (.own k ver) (kk K) (kk A):=(rfl)
theorem zxH (d:Nat) (t t2:TypeId) (x:PV) (fr:Bool) (z:Nat) (c:List PV) (A:Prop):zEs T s d t t2 x (.sl fr z c) (kk K) (kk A) = zCg T s d t t2 x (.sl fr z c) (kk K) (kk A):=(rfl)
theorem zl5 (d:Nat) (t t2:TypeId) (x:PV) (a:Option Addr) (n c:Nat) (A:Prop):zEs T s d t t2 x (.v (.slice a n c)) (kk K) (kk A) = zCg T s d t t2 x (.v (.slice a n c)) (kk K) (kk A):=(rfl)
def zxI (T:Tab) (r:Row) (s:St) (d:Nat) (kd:TK) (z:Nat) (kd2:TK) (z2 k ver:Nat) (b:ByteArray) (K:St→Prop):Prop :=
 0 < z∧0 < z2∧kd2 = .str∧match kd with
 | .sli e=>(T e).size = 1∧0 < (T e).bytes∧(r.ver = ver∧(match r.kind with
  | .nil=>b.size * (T e).bytes ≤ 140737488355328∧K (zc5 s d k (.sli e (T e).size false (zuH b)))
  | .sli e' sz' false c=>e' = e∧sz' = (T e).size∧(c.length + b.size) * (T e).bytes ≤ 140737488355328∧K (zc5 s d k (.sli e (T e).size false (c ++ zuH b)))
  | _=>False))
 | _=>False
theorem ztp (d:Nat) (t t2:TypeId) (k ver:Nat) (b:ByteArray) (A:Prop):zEs T s d t t2 (.own k ver) (.v (.string b)) (kk K) (kk A) = zxI T (s.rw k) s d (T t).k (T t).size (T t2).k (T t2).size k ver b (kk K):=(rfl)
theorem zo6 (d k ver e:Nat) (c:List PV) (b:ByteArray) (h:(T e).size = 1) (h2:(T e).bytes = 1):zxI T ⟨ver,.sli e 1 false c⟩ s d (.sli e) 1 .str 1 k ver b (kk K) =
 (c.length + b.size ≤ 140737488355328∧K (zc5 s d k (.sli e 1 false (c ++ zuH b)))):=by
 simp only [zxI,h,h2,Nat.one_pos,true_and,kk,Nat.mul_one]
theorem zo7 (d k ver e:Nat) (b:ByteArray) (h:(T e).size = 1) (h2:(T e).bytes = 1):zxI T ⟨ver,.nil⟩ s d (.sli e) 1 .str 1 k ver b (kk K) =
 (b.size ≤ 140737488355328∧K (zc5 s d k (.sli e 1 false (zuH b)))):=by
 simp only [zxI,h,h2,Nat.one_pos,true_and,kk,Nat.mul_one]
theorem zCh (d:Nat) (t t2:TypeId) (x:Value) (y:PV) (A:Prop):zCg T s d t t2 (.v x) y (kk K) (kk A) = A:=(rfl)
theorem zxJ (d:Nat) (t t2:TypeId) (fr:Bool) (z:Nat) (c:List PV) (y:PV) (A:Prop):zCg T s d t t2 (.sl fr z c) y (kk K) (kk A) = A:=(rfl)
def znj (T:Tab) (r:Row) (s:St) (d:Nat) (t t2:TypeId) (k ver:Nat) (y:PV) (Kt:St→Prop) (A:Prop):Prop:=match r.kind with | .tab e c=>zHq T s d t t2 k ver e c y Kt | _=>A
theorem ztq (d:Nat) (t t2:TypeId) (k ver:Nat) (y:PV) (A:Prop):zCg T s d t t2 (.own k ver) y (kk K) (kk A) = znj T (s.rw k) s d t t2 k ver y (kk K) (kk A):=(rfl)
theorem zjN (d:Nat) (t t2:TypeId) (k ver v e z:Nat) (fz:Bool) (c:List PV) (y:PV) (A:Prop):znj T ⟨v,.sli e z fz c⟩ s d t t2 k ver y (kk K) (kk A) = A:=(rfl)
theorem zjO (d:Nat) (t t2:TypeId) (k ver v:Nat) (y:PV) (A:Prop):znj T ⟨v,.nil⟩ s d t t2 k ver y (kk K) (kk A) = A:=(rfl)
def zDm (T:Tab) (s:St) (d:Nat) (kd:TK) (z k ver e:Nat) (r:Row) (c:List PV) (y:PV) (K:St→Prop):Prop :=
 0 < z∧kd = .sli e∧(T e).size = 1∧0 < (T e).bytes∧r.ver = ver∧zvG s.rw y fun news=>(c.length + news.length) * (T e).bytes ≤ 140737488355328∧K (zc5 s d k (.tab e (c ++ news)))
theorem zjP (d:Nat) (t:TypeId) (k ver v e:Nat) (c:List PV) (y:PV) (A:Prop):znj T ⟨v,.tab e c⟩ s d t t k ver y (kk K) (kk A) = zDm T s d (T t).k (T t).size k ver e (s.rw k) c y (kk K):=propext ⟨fun h=>h.2,fun h=>⟨rfl,h⟩⟩
theorem zo8 (d k ver e e':Nat) (c c':List PV) (y:PV) (h:(T e).size = 1) (h2:0 < (T e).bytes):zDm T s d (.sli e) 1 k ver e ⟨ver,.tab e' c'⟩ c y (kk K) =
 zvG s.rw y (kk fun news=>(c.length + news.length) * (T e).bytes ≤ 140737488355328∧K (zc5 s d k (.tab e (c ++ news)))):=by
 simp only [zDm,h,h2,Nat.one_pos,true_and,kk]
def zo9 (r:Row) (rw:Nat→Row) (v:Nat) (Kc:List PV→Prop):Prop:=r.ver = v∧(match r.kind with
 | .sli _ sz _ c=>sz = 1∧(∀ p ∈ c,isV p = true)∧Kc c
 | .tab _ c=>(∀ p ∈ c,zla rw p)∧Kc c
 | _=>False)
theorem zpa (rw:Nat→Row) (j v:Nat) (Kc:List PV→Prop):zvG rw (.own j v) (kk Kc) = zo9 (rw j) rw v (kk Kc):=(rfl)
theorem zpb [zaj] (rw:Nat→Row) (v e:Nat) (fz:Bool) (xs:List Int) (Kc:List PV→Prop):zo9 ⟨v,.sli e 1 fz (iL xs)⟩ rw v (kk Kc) = Kc (iL xs):=by
 have:=zw3 xs
 simp only [zo9,this,true_and,kk]
theorem zl6 (rw:Nat→Row) (v e k ver:Nat) (Kc:List PV→Prop):zo9 ⟨v,.tab e [.own k ver]⟩ rw v (kk Kc) = (zla rw (.own k ver)∧Kc [.own k ver]):=by
 simp only [zo9,true_and,kk,List.mem_singleton,forall_eq]
theorem zpc [zaj] (t:TypeId) (parts:Array (Nat × Operand)):zd2 P T s ⟨dst,.build t parts,ty,pos,af,g⟩ K = opK P T s ⟨dst,.build t parts,ty,pos,af,g⟩ K:=(rfl)
theorem zpd [zaj] (t:TypeId) (ad x:Operand):zd2 P T s ⟨dst,.store t ad x,ty,pos,af,g⟩ K = opK P T s ⟨dst,.store t ad x,ty,pos,af,g⟩ K:=(rfl)
theorem ztr [zaj] (t:TypeId) (l c:Operand):zd2 P T s ⟨dst,.makeSlice t l c,ty,pos,af,g⟩ K = opK P T s ⟨dst,.makeSlice t l c,ty,pos,af,g⟩ K:=(rfl)
theorem zpe [zaj] (t:TypeId) (x:Operand) (lo hi mx:Option Operand):zd2 P T s ⟨dst,.slice t x lo hi mx,ty,pos,af,g⟩ K = opK P T s ⟨dst,.slice t x lo hi mx,ty,pos,af,g⟩ K:=(rfl)
theorem zjQ [zaj] (op:BinOp) (t t2:TypeId) (x:Operand) (y:Nat):zd2 P T s ⟨dst,.binOp op t x (.tmp y) t2,ty,pos,af,g⟩ K = opK P T s ⟨dst,.binOp op t x (.tmp y) t2,ty,pos,af,g⟩ K:=by cases op <;> rfl
theorem zjR [zaj] (op:BinOp) (t t2:TypeId) (x:Operand) (k:IntKind) (n:Int):zd2 P T s ⟨dst,.binOp op t x (.const (.int k n)) t2,ty,pos,af,g⟩ K = opK P T s ⟨dst,.binOp op t x (.const (.int k n)) t2,ty,pos,af,g⟩ K:=by cases op <;> rfl
theorem zhS [zaj] (op:BinOp) (t t2:TypeId) (x:Operand) (b:Bool):zd2 P T s ⟨dst,.binOp op t x (.const (.bool b)) t2,ty,pos,af,g⟩ K = opK P T s ⟨dst,.binOp op t x (.const (.bool b)) t2,ty,pos,af,g⟩ K:=by cases op <;> rfl
theorem zfE [zaj] (op:BinOp) (t t2:TypeId) (x:Operand) (b:ByteArray):zd2 P T s ⟨dst,.binOp op t x (.const (.string b)) t2,ty,pos,af,g⟩ K = opK P T s ⟨dst,.binOp op t x (.const (.string b)) t2,ty,pos,af,g⟩ K:=by cases op <;> rfl
end
section
variable {dst:Option Nat} {ty:TypeId} {pos:String} {af:Array Edge} {g:Option (Nat × Bool)} {Ke:Ent→St→Prop}
theorem zxK [zaj] (x:Operand):dK P T s ⟨dst,.move x,ty,pos,af,g⟩ (kk Ke) = evK (s.ev x) (kk fun p=>Ke ⟨[],.ids []⟩ (s.put dst p)):=(rfl)
theorem zpf [zaj] (x:Operand):dK P T s ⟨dst,.assign x,ty,pos,af,g⟩ (kk Ke) = evK (s.ev x) (kk fun p=>Ke ⟨[],.ids []⟩ (s.put dst p)):=(rfl)
theorem zxL [zaj] (c x y:Operand):dK P T s ⟨dst,.pick c x y,ty,pos,af,g⟩ (kk Ke) = zAS (s.ev c) (kk (evK (s.ev x) (kk fun p=>Ke ⟨[],.ids []⟩ (s.put dst p)))) (kk (evK (s.ev y) (kk fun p=>Ke ⟨[],.ids []⟩ (s.put dst p)))):=(rfl)
theorem zCi [zaj] (op:BinOp) (t t2:TypeId) (x y:Operand):dK P T s ⟨dst,.binOp op t x y t2,ty,pos,af,g⟩ (kk Ke) = zcS T op t (s.ev x) (s.ev y) (kk fun p=>Ke ⟨[],.ids []⟩ (s.put dst p)):=(rfl)
theorem zF4 [zaj] (op:UnOp) (t:TypeId) (x:Operand):dK P T s ⟨dst,.unOp op t x,ty,pos,af,g⟩ (kk Ke) = unK op (s.ev x) (kk fun p=>Ke ⟨[],.ids []⟩ (s.put dst p)):=(rfl)
theorem zl7 [zaj] (a b:TypeId) (x:Operand):dK P T s ⟨dst,.convert a b x,ty,pos,af,g⟩ (kk Ke) = zc1 [s.ev x] [] (kk fun l=>zfw T s.rw a b (s.ev x) (kk fun p=>Ke ⟨l,.ids []⟩ (s.put dst p))):=(rfl)
theorem zxM [zaj] (t:TypeId) (x:Operand):dK P T s ⟨dst,.load t x,ty,pos,af,g⟩ (kk Ke) = zc1 [s.ev x] [] (kk fun l=>zq7 s.rw (s.ev x) (kk fun m c off=>ldK T t m c off (kk fun p=>Ke ⟨l,.ids []⟩ (s.put dst p)))):=(rfl)
theorem zhT [zaj] (t:TypeId) (x:Operand) (f:Nat):dK P T s ⟨dst,.fieldAddr t x f,ty,pos,af,g⟩ (kk Ke) =
 zc1 [s.ev x] [] (kk fun l=>zdD T t f (kk fun o _=>zkB (s.ev x) = true∧zdk s.rw (s.ev x) (kk (evK (zdW (s.ev x) o) (kk fun p=>Ke ⟨l,.ids []⟩ (s.put dst p)))))):=(rfl)
theorem zts [zaj] (t:TypeId) (x:Operand) (f:Nat):dK P T s ⟨dst,.field t x f,ty,pos,af,g⟩ (kk Ke) =
 agK (s.ev x) (kk fun c=>zdD T t f (kk fun o ft=>ldK T ft .asis c o (kk fun p=>Ke ⟨[],.ids []⟩ (s.put dst p)))):=zjC (P:=P) (T:=T) (s:=s) (K:=Ke ⟨[],.ids []⟩) (dst:=dst) (ty:=ty) (pos:=pos) (af:=af) (g:=g) t x f
theorem zhU [zaj] (t:TypeId) (x y:Operand):dK P T s ⟨dst,.indexAddr t x y,ty,pos,af,g⟩ (kk Ke) = zc1 [s.ev x,s.ev y] [] (kk fun l=>zbj T s.rw t (s.ev x) (s.ev y) (kk fun p=>Ke ⟨l,.ids []⟩ (s.put dst p))):=(rfl)
theorem ztt [zaj] (t:TypeId) (x y:Operand):dK P T s ⟨dst,.index t x y,ty,pos,af,g⟩ (kk Ke) = zta T t (s.ev x) (s.ev y) (kk fun p=>Ke ⟨[],.ids []⟩ (s.put dst p)):=(rfl)
theorem zl8 [zaj] (x:Operand) (n:Nat):dK P T s ⟨dst,.extract x n,ty,pos,af,g⟩ (kk Ke) = zHu (s.ev x) (kk fun ps=>n < ps.length∧evK (ps.getD n .junk) (kk fun p=>Ke ⟨[],.ids []⟩ (s.put dst p))):=(rfl)
theorem zjS [zaj] (f:FuncId) (caps:Array Operand):dK P T s ⟨dst,.makeFunc (.func f) #[] caps,ty,pos,af,g⟩ (kk Ke) = Ke ⟨[],.ids []⟩ (s.put dst (.clo f (caps.toList.map s.ev))):=by
 show (#[] = (#[]:Array Operand)∧Ke ⟨[],.ids []⟩ (s.put dst (.clo f (caps.toList.map s.ev)))) = _
 simp
theorem zjT [zaj] (x:Operand):dK P T s ⟨dst,.nilCheck x,ty,pos,af,g⟩ (kk Ke) = zc1 [s.ev x] [] (kk fun l=>zdk s.rw (s.ev x) (kk (evK (s.ev x) (kk fun p=>Ke ⟨l,.ids []⟩ (s.put dst p))))):=(rfl)
theorem zCj [zaj] (x:Operand) (t:TypeId):dK P T s ⟨dst,.call ⟨.builtin .len,#[x],#[t]⟩,ty,pos,af,g⟩ (kk Ke) = zc1 [s.ev x] [] (kk fun l=>zzh T s.rw t (s.ev x) (kk fun p=>Ke ⟨l,.ids []⟩ (s.put dst p))):=(rfl)
theorem zCk [zaj] (x y:Operand) (ts:Array TypeId):dK P T s ⟨dst,.call ⟨.builtin .max,#[x,y],ts⟩,ty,pos,af,g⟩ (kk Ke) = zc1 [s.ev x,s.ev y] [] (kk fun l=>zcE true (s.ev x) (s.ev y) (kk fun p=>Ke ⟨l,.ids []⟩ (s.put dst p))):=(rfl)
theorem zCl [zaj] (x y:Operand) (ts:Array TypeId):dK P T s ⟨dst,.call ⟨.builtin .min,#[x,y],ts⟩,ty,pos,af,g⟩ (kk Ke) = zc1 [s.ev x,s.ev y] [] (kk fun l=>zcE false (s.ev x) (s.ev y) (kk fun p=>Ke ⟨l,.ids []⟩ (s.put dst p))):=(rfl)
theorem zpg [zaj] (t:TypeId) (x:Operand) (mx:Option Operand):dK P T s ⟨dst,.slice t x none none mx,ty,pos,af,g⟩ (kk Ke) = zc1 (s.ev x :: (mx.toList).map s.ev) [] (kk fun l=>zbt T s.rw s.ev t (s.ev x) none none mx (kk fun p=>Ke ⟨l,.ids []⟩ (s.put dst p))):=by
 cases mx <;> rfl
theorem zph [zaj] (t:TypeId) (x lo:Operand):dK P T s ⟨dst,.slice t x (some lo) none none,ty,pos,af,g⟩ (kk Ke) = zc1 [s.ev x,s.ev lo] [] (kk fun l=>zbt T s.rw s.ev t (s.ev x) (some lo) none none (kk fun p=>Ke ⟨l,.ids []⟩ (s.put dst p))):=(rfl)
def zpi (T:Tab) (s:St) (dst:Option Nat) (t:TypeId) (x hi:Operand) (r:Row) (k ver:Nat) (py:PV) (Ke:Ent→St→Prop):Prop :=
 match r.kind with
 | .sli _ _ false _=>zHS T s dst t r k ver py Ke
 | _=>zc1 [.own k ver,py] [] (kk fun l=>zbt T s.rw s.ev t (.own k ver) none (some hi) none (kk fun p=>Ke ⟨l,.ids []⟩ (s.put dst p)))
def zF5 (T:Tab) (s:St) (dst:Option Nat) (t:TypeId) (x hi:Operand) (px py:PV) (Ke:Ent→St→Prop):Prop :=
 match px with
 | .own k ver=>zpi T s dst t x hi (s.rw k) k ver py Ke
 | _=>zc1 [px,py] [] (kk fun l=>zbt T s.rw s.ev t px none (some hi) none (kk fun p=>Ke ⟨l,.ids []⟩ (s.put dst p)))
theorem ztu (t:TypeId) (x hi:Operand) (k ver:Nat) (py:PV):zF5 T s dst t x hi (.own k ver) py (kk Ke) = zpi T s dst t x hi (s.rw k) k ver py (kk Ke):=(rfl)
theorem zxN (t:TypeId) (x hi:Operand) (fr:Bool) (z:Nat) (c:List PV) (py:PV):zF5 T s dst t x hi (.sl fr z c) py (kk Ke) = zc1 [.sl fr z c,py] [] (kk fun l=>zbt T s.rw s.ev t (.sl fr z c) none (some hi) none (kk fun p=>Ke ⟨l,.ids []⟩ (s.put dst p))):=(rfl)
theorem zCm (t:TypeId) (x hi:Operand) (v:Value) (py:PV):zF5 T s dst t x hi (.v v) py (kk Ke) = zc1 [.v v,py] [] (kk fun l=>zbt T s.rw s.ev t (.v v) none (some hi) none (kk fun p=>Ke ⟨l,.ids []⟩ (s.put dst p))):=(rfl)
theorem zpj (t:TypeId) (x hi:Operand) (v e z:Nat) (c:List PV) (k ver:Nat) (py:PV):zpi T s dst t x hi ⟨v,.sli e z true c⟩ k ver py (kk Ke) = zc1 [.own k ver,py] [] (kk fun l=>zbt T s.rw s.ev t (.own k ver) none (some hi) none (kk fun p=>Ke ⟨l,.ids []⟩ (s.put dst p))):=(rfl)
def zHx (T:Tab) (t e:TypeId):Prop:=0 < (T t).size∧(T t).k = .sli e∧0 < (T e).size∧(T e).size = 1
theorem zjU (t:TypeId) (x hi:Operand) (v e:Nat) (c:List PV) (k ver d:Nat) (kd:IntKind) (m:Int):zpi T s (some d) t x hi ⟨v,.sli e 1 false c⟩ k ver (.v (.int kd m)) (kk Ke) =
 (v = ver∧zHx T t e∧0 ≤ m∧m ≤ (c.length:Int)∧Ke ⟨[],.ids [k]⟩ ((s.row k ⟨ver + 1,.sli e 1 false (c.take m.toNat)⟩).put (some d) (.own k (ver + 1)))):=by
 refine propext ⟨fun h=>?_,fun ⟨h1,⟨h2,h3,h4,h5⟩,h6,h7,h8⟩=>⟨d,e,c,kd,m,rfl,by rw [h1],h2,h3,h4,h5,rfl,h6,h7,h8⟩⟩
 obtain ⟨d',e',c',kd',m',g1,g2,g3,g4,g5,g6,g7,g8,g9,g10⟩:=h
 cases g1;cases g2;cases g7
 exact ⟨rfl,⟨g3,g4,g5,g6⟩,g8,g9,g10⟩
theorem zpk [zaj] (t:TypeId) (x hi:Operand):dK P T s ⟨dst,.slice t x none (some hi) none,ty,pos,af,g⟩ (kk Ke) = zF5 T s dst t x hi (s.ev x) (s.ev hi) (kk Ke):=by
 have hr:(zex T s.rw s.ev (.slice t x none (some hi) none) fun p=>Ke ⟨znq s ⟨dst,.slice t x none (some hi) none,ty,pos,af,g⟩,.ids []⟩ (s.put dst p)) = zc1 [s.ev x,s.ev hi] [] (kk fun l=>zbt T s.rw s.ev t (s.ev x) none (some hi) none (kk fun p=>Ke ⟨l,.ids []⟩ (s.put dst p))):=(rfl)
 show zHp T s ⟨dst,.slice t x none (some hi) none,ty,pos,af,g⟩ t (s.ev x) (s.ev hi) (kk Ke) = _
 cases hx:s.ev x with
 | own k ver =>
   rw [hx] at hr
   unfold zHp zF5 zpi
   dsimp only
   generalize s.rw k = r
   cases r with
   | mk v kd =>
     cases kd with
     | sli e z fz c=>cases fz with
       | false=>rfl
       | true=>exact hr
     | _=>exact hr
 | _=>rw [hx] at hr;exact hr
theorem zpl [zaj] (t:TypeId) (x lo hi:Operand):dK P T s ⟨dst,.slice t x (some lo) (some hi) none,ty,pos,af,g⟩ (kk Ke) = zc1 [s.ev x,s.ev lo,s.ev hi] [] (kk fun l=>zbt T s.rw s.ev t (s.ev x) (some lo) (some hi) none (kk fun p=>Ke ⟨l,.ids []⟩ (s.put dst p))):=(rfl)
theorem ztv [zaj] (t:TypeId) (parts:List (Nat × Operand)):dK P T s ⟨dst,.build t ⟨parts⟩,ty,pos,af,g⟩ (kk Ke) = zc1 (evs s parts) [] (kk fun l=>zF2 T s.rw (T t).k (T t).size (T t).zero (zEr s parts) (kk fun p=>Ke ⟨l,.ids []⟩ (s.put dst p))):=by
 have e:((Op.build t ⟨parts⟩).operands.toList.map s.ev).flatMap zd9 = (evs s parts).flatMap zd9:=by
  simp [Op.operands,evs]
  rfl
 show zex T s.rw s.ev (.build t ⟨parts⟩) (fun p=>Ke ⟨((Op.build t ⟨parts⟩).operands.toList.map s.ev).flatMap zd9,.ids []⟩ (s.put dst p)) = _
 rw [e]
 exact (zCb (T:=T) (s:=s) t parts (fun p=>Ke ⟨(evs s parts).flatMap zd9,.ids []⟩ (s.put dst p)))
def zDn [zaj] (P:Program) (f:FuncId) (raw:List PV) (d:Nat) (s:St) (Ke:Ent→St→Prop):Prop:=zGj P s f raw d (fun rd k s1=>Ke ⟨rd,.ids [d,k]⟩ s1)
theorem zDo [zaj] {f:FuncId} {args raw lent:List PV} {k v e e2 d:Nat} {p:List Nat} {rows rows':List (List PV)} {r:RV} {Ka:RV→Prop} {us:Dm s} {u:Dm Ke} (h:AT P f args e e2 rows rows' (.rv r))
 (hg:GiveL [(k,v)] raw args) (ht:TabIs s.rw k v e e2 p rows) (hn:p.Nodup) (hd:d % 1000 ≠ k % 1000) (hk:Ke ⟨[],.ids [d,k]⟩ (zam (s.killed k p) d r)):zjE P f lent Ka (zDn P f raw d (kk s us) (kk Ke u)) :=
 .inr (.inl ⟨k,v,e,e2,p,rows,rows',args,r,h,hg,ht,hn,hd,hk⟩)
theorem zAU [zaj] {f:FuncId} {raw lent:List PV} {k d:Nat} {x:RV} {r:Row} {Ka:RV→Prop} {us:Dm s} {u:Dm Ke} (rd:List Nat) (h:∀ s':St,s'.rw k = s.rw k→(∀ a ∈ rd,s'.rw a = s.rw a)→∀ K':St→Prop,K' (zam (s'.row k r) d x)→askG P s' f raw (some d) K') (hd:d % 1000 ≠ k % 1000)
 (hk:Ke ⟨rd,.ids [d,k]⟩ (zam (s.row k r) d x)):zjE P f lent Ka (zDn P f raw d (kk s us) (kk Ke u)):=.inr (.inr (.inr ⟨rd,k,x,r,h,hd,hk⟩))
theorem zxO [zaj] (d:Nat) (f:Operand) (args:List Operand) (ts:Array TypeId):dK P T s ⟨some d,.call ⟨.value f,⟨args⟩,ts⟩,ty,pos,af,g⟩ (kk Ke) =
 zew s.rw 3 (zxx s args) [] (kk fun l=>zew s.rw 4 [s.ev f] l (kk fun l'=>zAm (s.ev f) (kk fun g caps=>zjE P g (zhf s args ++ caps.map (zcr s.rw 3)) (kk fun rv=>Ke ⟨l',.res d⟩ (zam s d rv)) (zDn P g (zxx s args ++ caps) d (kk s) (kk Ke))))):=by
 simp only [zew,zAR,List.nil_append,List.flatMap_cons,List.flatMap_nil,List.append_nil]
 show (zee P s.rw s.ev f ⟨args⟩ (fun rv=>Ke ⟨(zxx s args).flatMap (zdU s.rw 3) ++ zdU s.rw 4 (s.ev f),.res d⟩ (zam s d rv)) ∨ tdK P s f ⟨.value f,⟨args⟩,ts⟩ d Ke) = _
 unfold zee tdK zAm zjE zDn kk
 cases s.ev f <;> first | rfl | (simp;done) | skip
theorem zhV [zaj] (f:Operand) (args:List Operand) (ts:Array TypeId):dK P T s ⟨none,.call ⟨.value f,⟨args⟩,ts⟩,ty,pos,af,g⟩ (kk Ke) =
 zew s.rw 3 (zxx s args) [] (kk fun l=>zew s.rw 4 [s.ev f] l (kk fun l'=>zAm (s.ev f) (kk fun g caps=>zjE P g (zhf s args ++ caps.map (zcr s.rw 3)) (kk fun rv=>Ke ⟨l',.ids []⟩ s) False))):=by
 have e:=zAT (P:=P) (s:=s) f args (fun rv=>Ke ⟨(zxx s args).flatMap (zdU s.rw 3) ++ zdU s.rw 4 (s.ev f),.ids []⟩ s)
 simp only [zew,zAR,List.nil_append,List.flatMap_cons,List.flatMap_nil,List.append_nil]
 exact e
theorem zpm [zaj] (d:Nat) (x y:Operand) (t t2:TypeId):dK P T s ⟨some d,.call ⟨.builtin .append,#[x,y],#[t,t2]⟩,ty,pos,af,g⟩ (kk Ke) =
 zc1 [s.ev y] [] (kk fun l=>zc1 [s.ev x] [d] (kk fun l'=>opK P T s ⟨some d,.call ⟨.builtin .append,#[x,y],#[t,t2]⟩,ty,pos,af,g⟩ (Ke ⟨l,.ids l'⟩))):=by
 have e:∀ p:PV,[p].flatMap zd9 = zd9 p:=fun p=>by simp
 unfold zc1
 simp only [kk,e,List.nil_append]
 rfl
theorem ztw [zaj] (d:Nat) (t:TypeId):dK P T s ⟨some d,.alloc t,ty,pos,af,g⟩ (kk Ke) = opK P T s ⟨some d,.alloc t,ty,pos,af,g⟩ (Ke ⟨[],.ids [d]⟩):=(rfl)
theorem zCn [zaj] (d:Nat) (t:TypeId) (x:Operand):dK P T s ⟨some d,.box t x,ty,pos,af,g⟩ (kk Ke) = zc1 [s.ev x] [] (kk fun l=>opK P T s ⟨some d,.box t x,ty,pos,af,g⟩ (Ke ⟨l,.ids [d]⟩)):=by
 have e:∀ p:PV,[p].flatMap zd9 = zd9 p:=fun p=>by simp
 unfold zc1
 simp only [kk,e,List.nil_append]
 rfl
theorem zgB [zaj] (d:Nat) (t:TypeId) (n:Nat) (parts:List (Nat × Operand)):dK P T s ⟨some d,.buildSlice t n ⟨parts⟩,ty,pos,af,g⟩ (kk Ke) = zc1 (evs s parts) [d] (kk fun l=>opK P T s ⟨some d,.buildSlice t n ⟨parts⟩,ty,pos,af,g⟩ (Ke ⟨[],.ids l⟩)):=(rfl)
theorem ztx [zaj] (t:TypeId) (ad x:Operand):dK P T s ⟨dst,.store t ad x,ty,pos,af,g⟩ (kk Ke) = zc1 [s.ev ad,s.ev x] [] (kk fun l=>opK P T s ⟨dst,.store t ad x,ty,pos,af,g⟩ (Ke ⟨[],.ids l⟩)):=by
 have e:[s.ev ad,s.ev x].flatMap zd9 = zd9 (s.ev ad) ++ zd9 (s.ev x):=by simp
 unfold zc1
 simp only [kk,e,List.nil_append]
 rfl
theorem zxP [zaj] (d:Nat) (t:TypeId) (l c:Operand):dK P T s ⟨some d,.makeSlice t l c,ty,pos,af,g⟩ (kk Ke) = opK P T s ⟨some d,.makeSlice t l c,ty,pos,af,g⟩ (Ke ⟨[],.ids [d]⟩):=(rfl)
end
def TK.isInt:TK→Bool | .int _=>true | _=>false
section
variable {Kp:PV→Prop} {rw:Nat→Row}
section
variable (t:TypeId) (k:IntKind) (a b:Int)
theorem zxQ:zcS T .add t (.v (.int k a)) (.v (.int k b)) Kp = Kp (.v (.int k (k.wrap (a + b)))):=by simp [zcS,zbu,zb3]
theorem zxR:zcS T .sub t (.v (.int k a)) (.v (.int k b)) Kp = Kp (.v (.int k (k.wrap (a - b)))):=by simp [zcS,zbu,zb3]
theorem zxS:zcS T .mul t (.v (.int k a)) (.v (.int k b)) Kp = Kp (.v (.int k (k.wrap (a * b)))):=by simp [zcS,zbu,zb3]
theorem zxT:zcS T .quo t (.v (.int k a)) (.v (.int k b)) Kp = (b ≠ 0∧Kp (.v (.int k (k.wrap (a.tdiv b))))):=by simp [zcS,zbu,zb3]
theorem zxU:zcS T .rem t (.v (.int k a)) (.v (.int k b)) Kp = (b ≠ 0∧Kp (.v (.int k (a.tmod b)))):=by simp [zcS,zbu,zb3]
theorem zxV:zcS T .and t (.v (.int k a)) (.v (.int k b)) Kp = Kp (.v (.int k (zdv k a b))):=by simp [zcS,zbu,zb3]
theorem zCo:zcS T .or t (.v (.int k a)) (.v (.int k b)) Kp = Kp (.v (.int k (ior k a b))):=by simp [zcS,zbu,zb3]
theorem zxW:zcS T .xor t (.v (.int k a)) (.v (.int k b)) Kp = Kp (.v (.int k (zDG k a b))):=by simp [zcS,zbu,zb3]
theorem zl9:zcS T .andNot t (.v (.int k a)) (.v (.int k b)) Kp = Kp (.v (.int k (zhs k a b))):=by simp [zcS,zbu,zb3]
theorem zxX (k':IntKind):zcS T .shl t (.v (.int k a)) (.v (.int k' b)) Kp = (0 ≤ b∧Kp (.v (.int k (zuG k a b)))):=by simp [zcS,zbu,zb3]
theorem zxY (k':IntKind):zcS T .shr t (.v (.int k a)) (.v (.int k' b)) Kp = (0 ≤ b∧Kp (.v (.int k (zrP k a b)))):=by simp [zcS,zbu,zb3]
theorem zxZ:zcS T .eql t (.v (.int k a)) (.v (.int k b)) Kp = Kp (.v (.bool (a == b))):=by simp [zcS,zbu,zb3]
theorem zx0:zcS T .neq t (.v (.int k a)) (.v (.int k b)) Kp = Kp (.v (.bool (a != b))):=by simp [zcS,zbu,zb3]
theorem zx1:zcS T .lss t (.v (.int k a)) (.v (.int k b)) Kp = Kp (.v (.bool (decide (a < b)))):=by simp [zcS,zbu,zb3]
theorem zx2:zcS T .leq t (.v (.int k a)) (.v (.int k b)) Kp = Kp (.v (.bool (decide (a ≤ b)))):=by simp [zcS,zbu,zb3]
theorem zx3:zcS T .gtr t (.v (.int k a)) (.v (.int k b)) Kp = Kp (.v (.bool (decide (b < a)))):=by simp [zcS,zbu,zb3]
theorem zx4:zcS T .geq t (.v (.int k a)) (.v (.int k b)) Kp = Kp (.v (.bool (decide (b ≤ a)))):=by simp [zcS,zbu,zb3]
end
theorem zjV (t:TypeId) (a b:ByteArray):zcS T .eql t (.v (.string a)) (.v (.string b)) Kp = Kp (.v (.bool (a.toList == b.toList))):=by simp [zcS,zmR]
theorem zjW (t:TypeId) (a b:ByteArray):zcS T .neq t (.v (.string a)) (.v (.string b)) Kp = Kp (.v (.bool (!(a.toList == b.toList)))):=by simp [zcS,zmR]
theorem zjX (t:TypeId) (a b:ByteArray):zcS T .add t (.v (.string a)) (.v (.string b)) Kp = (a.size + b.size ≤ 9223372036854775807∧Kp (.v (.string (a ++ b)))):=by simp [zcS,zmR]
theorem zhW (t:TypeId) (a b:Bool):zcS T .eql t (.v (.bool a)) (.v (.bool b)) Kp = ((T t).k = .bool∧0 < (T t).size∧Kp (.v (.bool (a == b)))):=by simp [zcS]
theorem zhX (t:TypeId) (a b:Bool):zcS T .neq t (.v (.bool a)) (.v (.bool b)) Kp = ((T t).k = .bool∧0 < (T t).size∧Kp (.v (.bool (!(a == b))))):=by simp [zcS]
theorem zCp (b:Bool):unK .not (.v (.bool b)) Kp = Kp (.v (.bool !b)):=(rfl)
theorem zCq (k:IntKind) (n:Int):unK .neg (.v (.int k n)) Kp = Kp (.v (.int k (k.wrap (0 - n)))):=(rfl)
theorem zty (fr:Bool) (c:List PV) (off:Nat) (Km:Md→List PV→Nat→Prop):zq7 rw (.eref fr c off) Km = Km (.set fr) c off:=(rfl)
def zjY (r:Row) (ver off:Nat) (Km:Md→List PV→Nat→Prop):Prop:=r.ver = ver∧match r.kind with | .box _ c=>Km .asis c off | .sli _ _ _ c=>Km (.set true) c off | .tab _ c=>Km .asis c off | _=>False
theorem zx5 (j ver off:Nat) (Km:Md→List PV→Nat→Prop):zq7 rw (.ref j ver off) Km = zjY (rw j) ver off Km:=(rfl)
theorem zma (ver off:Nat) (bt:TypeId) (c:List PV) (Km:Md→List PV→Nat→Prop):zjY ⟨ver,.box bt c⟩ ver off Km = Km .asis c off:=by simp [zjY]
theorem zmb (ver off e:Nat) (c:List PV) (Km:Md→List PV→Nat→Prop):zjY ⟨ver,.tab e c⟩ ver off Km = Km .asis c off:=by simp [zjY]
theorem zmc (ver off e sz:Nat) (fz:Bool) (c:List PV) (Km:Md→List PV→Nat→Prop):zjY ⟨ver,.sli e sz fz c⟩ ver off Km = Km (.set true) c off:=by simp [zjY]
def zhY (r:Row) (ver:Nat) (K:PV→Prop):Prop:=r.ver = ver∧match r.kind with | .nil=>K (.v (.int .i64 0)) | .sli _ sz _ c=>0 < sz∧K (.v (.int .i64 ((c.length / sz:Nat):Int))) | .tab _ c=>K (.v (.int .i64 (c.length:Int))) | _=>False
def zDp (rw:Nat→Row) (k:TK) (z:Nat) (x:PV) (K:PV→Prop):Prop :=
 0 < z∧match k with
 | .str=>(match x with | .v (.string s)=>K (.v (.int .i64 s.size)) | _=>False)
 | .sli _=>zwm rw x fun sz n=>0 < sz∧K (.v (.int .i64 ((n / sz:Nat):Int)))
 | .arr n _=>K (.v (.int .i64 n))
 | _=>False
theorem zCr (t:TypeId) (x:PV):zzh T rw t x Kp = zDp rw (T t).k (T t).size x Kp:=(rfl)
theorem zx6 (b:ByteArray):zDp rw .str 1 (.v (.string b)) Kp = Kp (.v (.int .i64 b.size)):=by simp [zDp]
theorem zCs (e:TypeId) (fr:Bool) (c:List PV):zDp rw (.sli e) 1 (.sl fr 1 c) Kp = Kp (.v (.int .i64 (c.length:Int))):=by simp [zDp,zwm]
theorem zx7 (e:TypeId) (j ver:Nat):zDp rw (.sli e) 1 (.own j ver) Kp = zhY (rw j) ver Kp:=by
 simp only [zDp,zwm,zhY,true_and,Nat.one_pos]
 cases (rw j).kind <;> simp
theorem zmd (ver e:Nat) (fz:Bool) (c:List PV):zhY ⟨ver,.sli e 1 fz c⟩ ver Kp = Kp (.v (.int .i64 (c.length:Int))):=by simp [zhY]
theorem zme (ver e:Nat) (c:List PV):zhY ⟨ver,.tab e c⟩ ver Kp = Kp (.v (.int .i64 (c.length:Int))):=by simp [zhY]
theorem zmf (ver:Nat):zhY ⟨ver,.nil⟩ ver Kp = Kp (.v (.int .i64 0)):=by simp [zhY]
def iaD (T:Tab) (rw:Nat→Row) (kd:TK) (z:Nat) (x i:PV) (K:PV→Prop):Prop :=
 match i with
 | .v (.int _ n) =>
   0 < z∧match kd with
   | .sli e =>
     (match x with
     | .sl fr sz c=>0 < (T e).size∧sz = (T e).size∧0 ≤ n∧n.toNat * sz < c.length∧K (.eref fr c (n.toNat * sz))
     | .own k ver=>(rw k).ver = ver∧match (rw k).kind with | .sli _ sz _ c=>0 < (T e).size∧sz = (T e).size∧0 ≤ n∧n.toNat * sz < c.length∧K (.ref k ver (n.toNat * sz)) | .tab _ c=>(T e).size = 1∧0 ≤ n∧n.toNat < c.length∧K (.ref k ver n.toNat) | _=>False
     | _=>False)
   | .arr len e=>zkB x = true∧0 < (T e).size∧0 ≤ n∧n < len∧zdk rw x (K (zdW x (n.toNat * (T e).size)))
   | _=>False
 | _=>False
theorem zF6 (t:TypeId) (x i:PV):zbj T rw t x i Kp = iaD T rw (T t).k (T t).size x i Kp:=(rfl)
theorem zF7 {e:TypeId} {k:IntKind} (fr:Bool) (c:List PV) (n:Int) (h2:(T e).size = 1) :
 iaD T rw (.sli e) 1 (.sl fr 1 c) (.v (.int k n)) Kp = (0 ≤ n∧n < (c.length:Int)∧Kp (.eref fr c n.toNat)):=by
 simp only [iaD,h2,Nat.mul_one,true_and,Nat.one_pos]
 refine propext ⟨fun ⟨a,b,c⟩=>⟨a,by omega,c⟩,fun ⟨a,b,c⟩=>⟨a,by omega,c⟩⟩
def zvi (r:Row) (j ver:Nat) (n:Int) (K:PV→Prop):Prop:=r.ver = ver∧match r.kind with | .sli _ sz _ c=>sz = 1∧0 ≤ n∧n < (c.length:Int)∧K (.ref j ver n.toNat) | .tab _ c=>0 ≤ n∧n < (c.length:Int)∧K (.ref j ver n.toNat) | _=>False
theorem zCt {e:TypeId} {k:IntKind} (j ver:Nat) (n:Int) (h2:(T e).size = 1) :
 iaD T rw (.sli e) 1 (.own j ver) (.v (.int k n)) Kp = zvi (rw j) j ver n Kp:=by
 simp only [iaD,h2,zvi,true_and,Nat.one_pos]
 cases (rw j).kind <;> simp
 ·rintro _ rfl h
  rw [Nat.mul_one]
  exact ⟨fun ⟨a,b⟩=>⟨by omega,b⟩,fun ⟨a,b⟩=>⟨by omega,b⟩⟩
 ·intros;omega
theorem zx8 {e:TypeId} {k:IntKind} (len z j ver off:Nat) (n:Int) (h2:(T e).size = 1):iaD T rw (.arr len e) (z + 1) (.ref j ver off) (.v (.int k n)) Kp = (0 ≤ n∧n < (len:Int)∧zdk rw (.ref j ver off) (kk (Kp (.ref j ver (off + n.toNat))))):=by
 simp only [iaD,h2,Nat.mul_one,Nat.zero_lt_succ,Nat.one_pos,true_and,zkB,zdW,kk]
theorem zCu [zaj] {e:TypeId} {k:IntKind} (len z j ver off:Nat) (n:Int) (h2:(T e).size = 1):iaD T rw (.arr len e) (z + 1) (.ref j ver (off + 1)) (.v (.int k n)) Kp = (0 ≤ n∧n < (len:Int)∧zdk rw (.ref j ver (off + 1)) (kk (Kp (.ref j ver (off + 1 + n.toNat))))):=zx8 _ _ _ _ _ _ h2
theorem zx9 [zaj] {e:TypeId} {k:IntKind} (len z j ver:Nat) (n:Int) (h2:(T e).size = 1):iaD T rw (.arr len e) (z + 1) (.ref j ver 0) (.v (.int k n)) Kp = (0 ≤ n∧n < (len:Int)∧zdk rw (.ref j ver 0) (kk (Kp (.ref j ver n.toNat)))):=by
 rw [zx8 _ _ _ _ _ _ h2,Nat.zero_add]
theorem zpn (j ver e:Nat) (c:List PV) (n:Int):zvi ⟨ver,.tab e c⟩ j ver n Kp = (0 ≤ n∧n < (c.length:Int)∧Kp (.ref j ver n.toNat)):=by simp [zvi]
theorem zpo (j ver e:Nat) (fz:Bool) (c:List PV) (n:Int):zvi ⟨ver,.sli e 1 fz c⟩ j ver n Kp = (0 ≤ n∧n < (c.length:Int)∧Kp (.ref j ver n.toNat)):=by simp [zvi]
theorem zeK {α:Type} (f:α→PV) (d:α) (xs:List α) {t:TypeId} {m:Md} (o:Nat) (g:α→PV) (hg:∀ x,m.fix (f x) = g x) (h0:(T t).k.agg = false) (h1:0 < (T t).size) :
 ldK T t m (xs.map f) o Kp = (o < xs.length∧Kp (g (xs.getD o d))):=by
 simp only [ldK,h0,h1,true_and,List.length_map]
 refine propext ⟨fun ⟨a,b⟩=>⟨a,?_⟩,fun ⟨a,b⟩=>⟨a,?_⟩⟩
 ·have e:(xs.map f).getD o .junk = f xs[o]:=by simp [List.getD,a]
  have e2:xs.getD o d = xs[o]:=by simp [List.getD,a]
  rw [e,hg] at b
  rw [e2]
  exact b
 ·have e:(xs.map f).getD o .junk = f xs[o]:=by simp [List.getD,a]
  have e2:xs.getD o d = xs[o]:=by simp [List.getD,a]
  rw [e,hg]
  rw [e2] at b
  exact b
theorem zvj (m:Md) (v:Value):m.fix (.v v) = .v v:=by cases m <;> rfl
theorem zCv (fr f:Bool) (sz:Nat) (c:List PV):(Md.set fr).fix (.sl f sz c) = .sl fr sz c:=(rfl)
theorem ztz (p:PV):Md.asis.fix p = p:=(rfl)
theorem zF8 [zaj] (xs:List Int) {t:TypeId} {m:Md} (o:Nat) (h0:(T t).k.agg = false) (h1:0 < (T t).size):ldK T t m (iL xs) o Kp = (o < xs.length∧Kp (.v (.int .i64 (xs.getD o 0)))) :=
 zeK _ 0 xs o _ (fun x=>zvj m _) h0 h1
theorem zF9 [zaj] (k:IntKind) (xs:List Int) {t:TypeId} {m:Md} (o:Nat) (h0:(T t).k.agg = false) (h1:0 < (T t).size):ldK T t m (kL k xs) o Kp = (o < xs.length∧Kp (.v (.int k (xs.getD o 0)))) :=
 zeK _ 0 xs o _ (fun x=>zvj m _) h0 h1
theorem zGa [zaj] (xs:List Bool) {t:TypeId} {m:Md} (o:Nat) (h0:(T t).k.agg = false) (h1:0 < (T t).size):ldK T t m (bL xs) o Kp = (o < xs.length∧Kp (.v (.bool (xs.getD o false)))) :=
 zeK _ false xs o _ (fun x=>zvj m _) h0 h1
theorem zGb [zaj] (xs:List ByteArray) {t:TypeId} {m:Md} (o:Nat) (h0:(T t).k.agg = false) (h1:0 < (T t).size):ldK T t m (sL xs) o Kp = (o < xs.length∧Kp (.v (.string (xs.getD o ⟨#[]⟩)))) :=
 zeK (fun n=>PV.v (.string n)) ⟨#[]⟩ xs o (fun n=>PV.v (.string n)) (fun x=>zvj m _) h0 h1
theorem zCw [zaj] (xs:List (List Int)) {t:TypeId} {fr:Bool} (o:Nat) (h0:(T t).k.agg = false) (h1:0 < (T t).size):ldK T t (.set fr) (iLL xs) o Kp = (o < xs.length∧Kp (.sl fr 1 (iL (xs.getD o [])))) :=
 zeK _ [] xs o (fun r=>.sl fr 1 (iL r)) (fun x=>rfl) h0 h1
theorem zGc {t:TypeId} {m:Md} (p:PV) (c:List PV) (h0:(T t).k.agg = false) (h1:0 < (T t).size):ldK T t m (p :: c) 0 Kp = evK (m.fix p) Kp:=by simp [ldK,h0,h1,evK]
theorem zGd {t:TypeId} {m:Md} (p q:PV) (c:List PV) (h0:(T t).k.agg = false) (h1:0 < (T t).size):ldK T t m (p :: q :: c) 1 Kp = evK (m.fix q) Kp:=by simp [ldK,h0,h1,evK]
theorem zGe {t:TypeId} {m:Md} (p q r:PV) (c:List PV) (h0:(T t).k.agg = false) (h1:0 < (T t).size):ldK T t m (p :: q :: r :: c) 2 Kp = evK (m.fix r) Kp:=by simp [ldK,h0,h1,evK]
theorem zGf {t:TypeId} {m:Md} (p q r s:PV) (c:List PV) (h0:(T t).k.agg = false) (h1:0 < (T t).size):ldK T t m (p :: q :: r :: s :: c) 3 Kp = evK (m.fix s) Kp:=by simp [ldK,h0,h1,evK]
theorem zya {t:TypeId} {m:Md} (p:PV) (c0:List PV) (o:Nat) (h0:(T t).k.agg = true) (h1:0 < (T t).size):ldK T t m (p :: c0) o Kp = (o + (T t).size ≤ (p :: c0).length∧evK (.ag ((((p :: c0).drop o).take (T t).size).map m.fix)) Kp):=by simp [ldK,h0,h1,evK]
def ztA (T:Tab) (kd:TK) (z:Nat) (f:Nat) (K:Nat→TypeId→Prop):Prop :=
 0 < z∧match kd with | .struct fs=>(match fs[f]? with | some (o,ft)=>0 < (T ft).size∧K o ft | none=>False) | _=>False
def zGg (T:Tab) (x:Option (Nat × TypeId)) (K:Nat→TypeId→Prop):Prop:=match x with | some (o,ft)=>0 < (T ft).size∧K o ft | none=>False
theorem ztB (t:TypeId) (f:Nat) (Kf:Nat→TypeId→Prop):zdD T t f Kf = ztA T (T t).k (T t).size f Kf:=(rfl)
theorem zeL (fs:List (Nat × TypeId)) (z f:Nat) (Kf:Nat→TypeId→Prop):ztA T (.struct fs) (z + 1) f Kf = zGg T fs[f]? Kf:=by simp only [ztA,zGg,Nat.zero_lt_succ,true_and]
theorem zpp (o:Nat) (ft:TypeId) (Kf:Nat→TypeId→Prop) (h:0 < (T ft).size):zGg T (some (o,ft)) Kf = Kf o ft:=by simp [zGg,h]
theorem zgC [zaj] (fs:List (Nat × TypeId)) (f:Nat) (Kf:Nat→TypeId→Prop):ztA T (.struct fs) 2 f Kf = zGg T fs[f]? Kf:=zeL fs 1 f Kf
theorem zpq (fr:Bool) (c:List PV) (o:Nat) (A:Prop):zdk rw (.eref fr c o) (kk A) = A:=(rfl)
theorem ztC (f:FuncId) (c:List PV) (A:Prop):zdk rw (.clo f c) (kk A) = A:=(rfl)
def zhh (r:Row) (ver:Nat) (A:Prop):Prop:=r.ver = ver∧r.kind.nd = true∧A
theorem ztD (j ver o:Nat) (A:Prop):zdk rw (.ref j ver o) A = zhh (rw j) ver A:=(rfl)
theorem zjZ (ver:Nat) (bt:TypeId) (c:List PV) (A:Prop):zhh ⟨ver,.box bt c⟩ ver (kk A) = A:=by simp [zhh,RK.nd,kk]
theorem zpr (j v o:Nat):zkB (.ref j v o) = true:=(rfl)
theorem zmg (fr:Bool) (c:List PV) (o:Nat):zkB (.eref fr c o) = true:=(rfl)
theorem zps (j v o d:Nat):zdW (.ref j v o) d = .ref j v (o + d):=(rfl)
theorem zmh (fr:Bool) (c:List PV) (o d:Nat):zdW (.eref fr c o) d = .eref fr c (o + d):=(rfl)
def zDq (kd kd2:TK) (x:PV) (K:PV→Prop):Prop:=match kd,kd2,x with
 | .int _,.int k,.v (.int _ n)=>K (.v (.int k (k.wrap n)))
 | .str,.str,.v (.string s)=>K (.v (.string s))
 | _,_,_=>False
theorem ztE {a b:TypeId} {k:IntKind} (n:Int) (h1:(T a).k.isInt = true) (h2:(T b).k.isInt = true) (h3:0 < (T a).size) (h4:0 < (T b).size):zfw T rw a b (.v (.int k n)) Kp = zDq (T a).k (T b).k (.v (.int k n)) Kp:=by
 revert h1 h2
 simp only [zfw,zDq,h3,h4,true_and]
 cases (T a).k <;> simp [TK.isInt]
 cases (T b).k <;> simp [TK.isInt]
theorem zpt (k1 k2 k:IntKind) (n:Int):zDq (.int k1) (.int k2) (.v (.int k n)) Kp = Kp (.v (.int k2 (k2.wrap n))):=(rfl)
theorem ztF {a b:TypeId} (n:ByteArray) (h1:(T a).k = .str) (h2:(T b).k = .str) (h3:0 < (T a).size) (h4:0 < (T b).size):zfw T rw a b (.v (.string n)) Kp = Kp (.v (.string n)):=by
 simp [zfw,h1,h2,h3,h4]
theorem zpu {t:TypeId} {k:IntKind} (b:ByteArray) (n:Int) (h0:(T t).k = .str) (h1:0 < (T t).size):zta T t (.v (.string b)) (.v (.int k n)) Kp = (0 ≤ n∧n.toNat < b.size∧Kp (.v (.int .u8 ((b.data.toList.getD n.toNat 0).toNat:Int)))):=by
 simp [zta,h0,h1]
theorem zmi (k k':IntKind) (a b:Int):zcE true (.v (.int k a)) (.v (.int k' b)) Kp = Kp (.v (.int k (if b > a then b else a))):=(rfl)
theorem zmj (k k':IntKind) (a b:Int):zcE false (.v (.int k a)) (.v (.int k' b)) Kp = Kp (.v (.int k (if b < a then b else a))):=(rfl)
def zrs (p:PV) (K:Int→Prop):Prop:=match p with | .v (.int _ n)=>K n | _=>False
theorem ztG (k:IntKind) (n:Int) (Ki:Int→Prop):zrs (.v (.int k n)) Ki = Ki n:=(rfl)
def znk (T:Tab) (rw:Nat→Row) (ev:Operand→PV) (kd:TK) (z:Nat) (x:PV) (lo hi mx:Option Operand) (K:PV→Prop):Prop :=
 0 < z∧match kd with
 | .str=>mx = none∧(match x with
  | .v (.string s)=>zlb ev lo 0 fun l=>zlb ev hi s.size fun h=>0 ≤ l∧l ≤ h∧h ≤ s.size∧K (.v (.string (s.extract l.toNat h.toNat)))
  | _=>False)
 | .sli e=>zfX rw x fun fr sz c=>0 < (T e).size∧sz = (T e).size ∧
  zlb ev lo 0 fun l=>zlb ev hi ((c.length / sz:Nat):Int) fun h=>zlb ev mx ((c.length / sz:Nat):Int) fun m=>0 ≤ l∧l ≤ h∧h ≤ m∧m ≤ ((c.length / sz:Nat):Int)∧(hi = none→mx = none) ∧
   K (.sl fr sz ((c.take (h.toNat * sz)).drop (l.toNat * sz)))
 | _=>False
theorem zCx (t:TypeId) (ev:Operand→PV) (x:PV) (lo hi mx:Option Operand):zbt T rw ev t x lo hi mx Kp = znk T rw ev (T t).k (T t).size x lo hi mx Kp:=(rfl)
theorem ztH {e:TypeId} (fr:Bool) (c:List PV) (x:Operand) (h2:(T e).size = 1):znk T rw s.ev (.sli e) 1 (.sl fr 1 c) (some x) none none Kp = zrs (s.ev x) (kk fun l=>0 ≤ l∧l ≤ (c.length:Int)∧Kp (.sl fr 1 (c.drop l.toNat))):=by
 simp only [znk,zfX,zlb,h2,zrs,kk]
 cases s.ev x <;> simp
 rename_i v
 cases v <;> simp
theorem ztI {e:TypeId} (fr:Bool) (c:List PV) (x:Operand) (h2:(T e).size = 1):znk T rw s.ev (.sli e) 1 (.sl fr 1 c) none (some x) none Kp = zrs (s.ev x) (kk fun l=>0 ≤ l∧l ≤ (c.length:Int)∧Kp (.sl fr 1 (c.take l.toNat))):=by
 simp only [znk,zfX,zlb,h2,zrs,kk]
 cases s.ev x <;> simp
 rename_i v
 cases v <;> simp
theorem ztJ {e:TypeId} (fr:Bool) (c:List PV) (x y:Operand) (h2:(T e).size = 1):znk T rw s.ev (.sli e) 1 (.sl fr 1 c) (some x) (some y) none Kp = zrs (s.ev x) (kk fun l=>zrs (s.ev y) (kk fun h=>0 ≤ l∧l ≤ h∧h ≤ (c.length:Int)∧Kp (.sl fr 1 ((c.take h.toNat).drop l.toNat)))):=by
 simp only [znk,zfX,zlb,h2,zrs,kk]
 cases s.ev x <;> simp
 rename_i v
 cases v <;> simp
 rename_i q n
 cases s.ev y <;> try simp
 rename_i v
 cases v <;> try simp
theorem zyb {e:TypeId} (fr:Bool) (c:List PV) (h2:(T e).size = 1):znk T rw s.ev (.sli e) 1 (.sl fr 1 c) none none none Kp = Kp (.sl fr 1 c):=by
 simp only [znk,zfX,zlb,h2]
 simp
theorem ztK (b:ByteArray) (x:Operand):znk T rw s.ev .str 1 (.v (.string b)) (some x) none none Kp = zrs (s.ev x) (kk fun l=>0 ≤ l∧l ≤ (b.size:Int)∧Kp (.v (.string (b.extract l.toNat b.size)))):=by
 simp only [znk,zlb,zrs,kk]
 cases s.ev x <;> simp
 rename_i v
 cases v <;> simp
theorem ztL (b:ByteArray) (x:Operand):znk T rw s.ev .str 1 (.v (.string b)) none (some x) none Kp = zrs (s.ev x) (kk fun h=>0 ≤ h∧h ≤ (b.size:Int)∧Kp (.v (.string (b.extract 0 h.toNat)))):=by
 simp only [znk,zlb,zrs,kk]
 cases s.ev x <;> simp
 rename_i v
 cases v <;> simp
theorem ztM (b:ByteArray) (x y:Operand):znk T rw s.ev .str 1 (.v (.string b)) (some x) (some y) none Kp = zrs (s.ev x) (kk fun l=>zrs (s.ev y) (kk fun h=>0 ≤ l∧l ≤ h∧h ≤ (b.size:Int)∧Kp (.v (.string (b.extract l.toNat h.toNat))))):=by
 simp only [znk,zlb,zrs,kk]
 cases s.ev x <;> simp
 rename_i v
 cases v <;> simp
 rename_i q n
 cases s.ev y <;> try simp
 rename_i v
 cases v <;> try simp
def ztN (T:Tab) (r:Row) (k ver:Nat) (ev:Operand→PV) (e z:Nat) (rw:Nat→Row) (lo hi mx:Option Operand) (K:PV→Prop):Prop :=
 k < 1000000∧r.ver = ver∧match r.kind with | .sli _ sz true c=>znk T rw ev (.sli e) z (.sl true sz c) lo hi mx K | _=>False
theorem zyc (e z k ver:Nat) (lo hi mx:Option Operand):znk T rw s.ev (.sli e) z (.own k ver) lo hi mx Kp = ztN T (rw k) k ver s.ev e z rw lo hi mx Kp:=by
 have el:(k < lent) = (k < 1000000):=rfl
 simp only [znk,zfX,ztN,el]
 cases (rw k).kind with
 | sli e' sz fz c =>
   cases fz <;> simp
   refine ⟨fun ⟨a,b,c,d,h⟩=>⟨b,c,a,d,h⟩,fun ⟨b,c,a,d,h⟩=>⟨a,b,c,d,h⟩⟩
 | _=>simp
theorem zmk (e z k ver e' sz:Nat) (rw':Nat→Row) (c:List PV) (lo hi mx:Option Operand):ztN T ⟨ver,.sli e' sz true c⟩ k ver s.ev e z rw' lo hi mx Kp = (k < 1000000∧znk T rw' s.ev (.sli e) z (.sl true sz c) lo hi mx Kp):=by simp [ztN]
theorem zyd {Kf:List Nat→PV→Prop} (t:TypeId) (fr:Bool) (z:Nat) (c:List PV) (lo hi mx:Option Operand):zEq T s t (.sl fr z c) lo hi mx (kk Kf) = zbt T s.rw s.ev t (.sl fr z c) lo hi mx (kk fun p=>Kf [] p):=(rfl)
theorem zCy {Kf:List Nat→PV→Prop} (t:TypeId) (x:Value) (lo hi mx:Option Operand):zEq T s t (.v x) lo hi mx (kk Kf) = zbt T s.rw s.ev t (.v x) lo hi mx (kk fun p=>Kf [] p):=(rfl)
def zye (T:Tab) (s:St) (t:TypeId) (r:Row) (k ver:Nat) (lo hi mx:Option Operand) (K:List Nat→PV→Prop):Prop :=
 match r.kind with
 | .sli _ _ false _=>zbt T (s.freeze [k]).rw s.ev t (.own k ver) lo hi mx (kk fun p=>K [k] p)
 | _=>zbt T s.rw s.ev t (.own k ver) lo hi mx (kk fun p=>K [] p)
theorem ztO {Kf:List Nat→PV→Prop} (t:TypeId) (k ver:Nat) (lo hi mx:Option Operand):zEq T s t (.own k ver) lo hi mx (kk Kf) = zye T s t (s.rw k) k ver lo hi mx (kk Kf):=(rfl)
theorem zj0 {Kf:List Nat→PV→Prop} (t:TypeId) (v e z:Nat) (c:List PV) (k ver:Nat) (lo hi mx:Option Operand):zye T s t ⟨v,.sli e z false c⟩ k ver lo hi mx (kk Kf) = zbt T (s.freeze [k]).rw s.ev t (.own k ver) lo hi mx (kk fun p=>Kf [k] p):=(rfl)
theorem zpv {Kf:List Nat→PV→Prop} (t:TypeId) (v e z:Nat) (c:List PV) (k ver:Nat) (lo hi mx:Option Operand):zye T s t ⟨v,.sli e z true c⟩ k ver lo hi mx (kk Kf) = zbt T s.rw s.ev t (.own k ver) lo hi mx (kk fun p=>Kf [] p):=(rfl)
theorem zyf {Kc:List PV→Prop} (x:Value) (h:x.oneCell' = true):zaT rw (.v x) Kc = Kc [.v x]:=by simp [zaT,h]
theorem ztP {Kc:List PV→Prop} (c:List PV):zaT rw (.ag c) Kc = Kc c:=(rfl)
theorem ztQ {Kc:List PV→Prop} (fr:Bool) (sz:Nat) (c:List PV):zaT rw (.sl fr sz c) Kc = Kc [.sl fr sz c]:=(rfl)
theorem zpw {Kc:List PV→Prop} (f:FuncId) (c:List PV):zaT rw (.clo f c) Kc = Kc [.clo f c]:=(rfl)
def zj1 (r:Row) (ver:Nat) (A:Prop):Prop:=r.ver = ver∧r.kind.slice = true∧A
theorem zpx {Kc:List PV→Prop} (j ver:Nat):zaT rw (.own j ver) Kc = zj1 (rw j) ver (kk (Kc [.own j ver])):=(rfl)
theorem zml (ver e sz:Nat) (fz:Bool) (c:List PV) (A:Prop):zj1 ⟨ver,.sli e sz fz c⟩ ver (kk A) = A:=by simp [zj1,RK.slice,kk]
theorem zmm (ver e:Nat) (c:List PV) (A:Prop):zj1 ⟨ver,.tab e c⟩ ver (kk A) = A:=by simp [zj1,RK.slice,kk]
theorem zpy {Kc:List PV→Prop} (j ver o:Nat):zaT rw (.ref j ver o) Kc = zhh (rw j) ver (kk (Kc [.ref j ver o])):=(rfl)
theorem zCz {Kc:List PV→List Nat→Prop} (x:Value) (h:x.oneCell' = true):zcO rw (.v x) Kc = Kc [.v x] []:=by simp [zcO,h]
theorem zyg {Kc:List PV→List Nat→Prop} (sz:Nat) (c:List PV):zcO rw (.sl true sz c) Kc = Kc [.sl false sz c] []:=by simp [zcO]
theorem zyh {Kc:List PV→List Nat→Prop} (c:List PV):zcO rw (.ag c) Kc = ((∀ x ∈ c,isV x = true)∧Kc c []):=(rfl)
def zrt (r:Row) (k ver:Nat) (K:List PV→List Nat→Prop):Prop:=r.ver = ver∧k < lent∧(match r.kind with | .nil=>K [.sl false 1 []] [] | .sli _ sz _ c=>K [.sl false sz c] [k] | _=>False)
theorem ztR {Kc:List PV→List Nat→Prop} (j ver:Nat):zcO rw (.own j ver) Kc = zrt (rw j) j ver Kc:=(rfl)
theorem zj2 {Kc:List PV→List Nat→Prop} (j ver e sz:Nat) (fz:Bool) (c:List PV) (h:j < lent):zrt ⟨ver,.sli e sz fz c⟩ j ver Kc = Kc [.sl false sz c] [j]:=by simp [zrt,h]
def ztS (rw:Nat→Row) (l:List PV):Prop:=∀ p ∈ l,zla rw p
theorem zyi (rw:Nat→Row) (l:List PV):(∀ p ∈ l,zla rw p) = ztS rw l:=(rfl)
theorem ztT (rw:Nat→Row):ztS rw [] = True:=by simp [ztS]
theorem zpz (rw:Nat→Row) (p:PV) (l:List PV):ztS rw (p :: l) = (zla rw p∧ztS rw l):=by simp [ztS]
def zeM (s:St) (z j ver off:Nat) (r:Row) (x:PV) (K:St→Prop):Prop:=0 < z∧r.ver = ver∧match r.kind with
 | .box bt c=>zaT s.rw x fun new=>new.length = z∧off + new.length ≤ c.length∧ztS s.rw new∧K (s.row j ⟨ver,.box bt (spl c off new)⟩)
 | .sli e sz false c=>zcO s.rw x fun new fz=>new.length = z∧off + new.length ≤ c.length∧j ∉ fz∧K ((s.freeze fz).row j ⟨ver,.sli e sz false (spl c off new)⟩)
 | .tab e c=>zaT s.rw x fun new=>new.length = z∧off + new.length ≤ c.length∧ztS s.rw new∧K (s.row j ⟨ver,.tab e (spl c off new)⟩)
 | _=>False
theorem zpA (j ver off e:Nat) (c:List PV) (x:PV):zeM s 1 j ver off ⟨ver,.tab e c⟩ x K = zaT s.rw x (kk fun new=>new.length = 1∧off + new.length ≤ c.length∧ztS s.rw new∧K (s.row j ⟨ver,.tab e (spl c off new)⟩)):=by
 simp only [zeM,Nat.one_pos,true_and,kk]
theorem ztU (t:TypeId) (j ver off:Nat) (x:PV):zqq T s t (.ref j ver off) x K = zeM s (T t).size j ver off (s.rw j) x K:=(rfl)
theorem zj3 [zaj]:s.freeze [] = s:=St.freeze_nil s
theorem zpB (j ver off e sz:Nat) (c:List PV) (x:PV):zeM s 1 j ver off ⟨ver,.sli e sz false c⟩ x K = zcO s.rw x (kk fun new fz=>new.length = 1∧off + new.length ≤ c.length∧j ∉ fz∧K ((s.freeze fz).row j ⟨ver,.sli e sz false (spl c off new)⟩)):=by
 simp only [zeM,Nat.one_pos,true_and,kk]
theorem zgD (z j ver off:Nat) (bt:TypeId) (c:List PV) (x:PV):zeM s (z + 1) j ver off ⟨ver,.box bt c⟩ x K = zaT s.rw x (kk fun new=>new.length = z + 1∧off + new.length ≤ c.length∧ztS s.rw new∧K (s.row j ⟨ver,.box bt (spl c off new)⟩)):=by
 simp only [zeM,Nat.zero_lt_succ,true_and,kk]
theorem zmn [zaj] (j ver off:Nat) (bt:TypeId) (c:List PV) (x:PV):zeM s 1 j ver off ⟨ver,.box bt c⟩ x K = zaT s.rw x (kk fun new=>new.length = 1∧off + new.length ≤ c.length∧ztS s.rw new∧K (s.row j ⟨ver,.box bt (spl c off new)⟩)):=zgD 0 j ver off bt c x
theorem zmo [zaj] (j ver off:Nat) (bt:TypeId) (c:List PV) (x:PV):zeM s 2 j ver off ⟨ver,.box bt c⟩ x K = zaT s.rw x (kk fun new=>new.length = 2∧off + new.length ≤ c.length∧ztS s.rw new∧K (s.row j ⟨ver,.box bt (spl c off new)⟩)):=zgD 1 j ver off bt c x
theorem zCA (rw:Nat→Row) (v:Value):zla rw (.v v) = (v.oneCell' = true):=(rfl)
theorem zyj (rw:Nat→Row) (fr:Bool) (z:Nat) (c:List PV):zla rw (.sl fr z c) = True:=(rfl)
theorem zpC (rw:Nat→Row) (fr:Bool) (c:List PV) (o:Nat):zla rw (.eref fr c o) = True:=(rfl)
theorem ztV (rw:Nat→Row) (f:FuncId) (c:List PV):zla rw (.clo f c) = True:=(rfl)
theorem ztW (rw:Nat→Row) (j v:Nat):zla rw (.own j v) = zj1 (rw j) v (kk True):=by simp [zla,zj1,kk]
theorem ztX (rw:Nat→Row) (j v o:Nat):zla rw (.ref j v o) = zhh (rw j) v (kk True):=by simp [zla,zhh,kk]
theorem zmp [zaj] (j ver off:Nat) (bt:TypeId) (c:List PV) (x:PV):zeM s 3 j ver off ⟨ver,.box bt c⟩ x K = zaT s.rw x (kk fun new=>new.length = 3∧off + new.length ≤ c.length∧ztS s.rw new∧K (s.row j ⟨ver,.box bt (spl c off new)⟩)):=zgD 2 j ver off bt c x
theorem zmq [zaj] (j ver off:Nat) (bt:TypeId) (c:List PV) (x:PV):zeM s 4 j ver off ⟨ver,.box bt c⟩ x K = zaT s.rw x (kk fun new=>new.length = 4∧off + new.length ≤ c.length∧ztS s.rw new∧K (s.row j ⟨ver,.box bt (spl c off new)⟩)):=zgD 3 j ver off bt c x
def zj4 (T:Tab) (rw:Nat→Row) (y:PV) (K:List PV→Prop):Prop:=slK rw y fun fr sz news=>sz = 1∧((∀ p ∈ news,isV p = true) ∨ (fr = true∧∀ p ∈ news,zq6 p = true))∧K news
def zj5 (T:Tab) (s:St) (d j ver e:Nat) (r:Row) (news:List PV) (K:St→Prop):Prop:=r.ver = ver∧match r.kind with
 | .nil=>news.length * (T e).bytes ≤ 140737488355328∧K (zc5 s d j (.sli e 1 false news))
 | .sli e' sz' false c=>e' = e∧sz' = 1∧(c.length + news.length) * (T e).bytes ≤ 140737488355328∧K (zc5 s d j (.sli e 1 false (c ++ news)))
 | _=>False
def zGh (T:Tab) (s:St) (d e:Nat) (x:PV) (news:List PV) (K:St→Prop):Prop:=match x with
 | .v u=>zdJ u = true∧news.length * (T e).bytes ≤ 140737488355328∧K (zcP s d (.sli e 1 false news) (fun v=>.own d v))
 | .own j ver=>zj5 T s d j ver e (s.rw j) news K
 | _=>False
def zHy (T:Tab) (s:St) (d:Nat) (kd:TK) (z:Nat) (x y:PV) (K:St→Prop):Prop :=
 0 < z∧match kd with
 | .sli e=>0 < (T e).size∧0 < (T e).bytes∧slK s.rw y fun fr sz news=>sz = (T e).size∧((∀ p ∈ news,isV p = true) ∨ (fr = true∧∀ p ∈ news,zq6 p = true)) ∧
  (match x with
  | .v u=>zdJ u = true∧news.length * (T e).bytes ≤ 140737488355328∧K (zcP s d (.sli e (T e).size false news) (fun v=>.own d v))
  | .own k ver=>(s.rw k).ver = ver∧(match (s.rw k).kind with
   | .nil=>news.length * (T e).bytes ≤ 140737488355328∧K (zc5 s d k (.sli e (T e).size false news))
   | .sli e' sz' false c=>e' = e∧sz' = (T e).size∧(c.length + news.length) * (T e).bytes ≤ 140737488355328∧K (zc5 s d k (.sli e (T e).size false (c ++ news)))
   | _=>False)
  | _=>False)
 | _=>False
theorem zpD (d:Nat) (t:TypeId) (x y:PV):zku T s d t t x y K = zHy T s d (T t).k (T t).size x y K:=propext ⟨fun h=>h.2,fun h=>⟨rfl,h⟩⟩
theorem ztY {d e:Nat} (x y:PV) (h2:(T e).size = 1) (h3:0 < (T e).bytes):zHy T s d (.sli e) 1 x y K = zj4 T s.rw y (kk fun news=>zGh T s d e x news (kk K)):=by
 unfold zHy zj4
 simp only [h2,h3,true_and,kk,Nat.one_pos]
 unfold zGh zj5
 cases x <;> rfl
theorem ztZ (d e j ver:Nat) (news:List PV):zGh T s d e (.own j ver) news K = zj5 T s d j ver e (s.rw j) news K:=(rfl)
theorem zt0 (d e:Nat) (news:List PV):zGh T s d e (.v (.slice none 0 0)) news K = (news.length * (T e).bytes ≤ 140737488355328∧K (zcP s d (.sli e 1 false news) (fun v=>.own d v))):=by simp [zGh,zdJ]
theorem zmr (d j ver e:Nat) (c news:List PV):zj5 T s d j ver e ⟨ver,.sli e 1 false c⟩ news K = ((c.length + news.length) * (T e).bytes ≤ 140737488355328∧K (zc5 s d j (.sli e 1 false (c ++ news)))):=by simp [zj5]
theorem zms (d j ver e:Nat) (news:List PV):zj5 T s d j ver e ⟨ver,.nil⟩ news K = (news.length * (T e).bytes ≤ 140737488355328∧K (zc5 s d j (.sli e 1 false news))):=by simp [zj5]
variable {Kc:List PV→Prop}
theorem zyk (c:List PV) (h:∀ p ∈ c,isV p = true) (fr:Bool):zj4 T rw (.sl fr 1 c) Kc = Kc c:=by
 have e:(∀ p ∈ c,isV p = true) = True:=eq_true h
 simp only [zj4,slK,e,true_or,true_and]
theorem zyl [zaj] (xs:List Int) (fr:Bool):zj4 T rw (.sl fr 1 (iL xs)) Kc = Kc (iL xs):=zyk _ (by simpa using zw3 xs) fr
theorem zym [zaj] (k:IntKind) (xs:List Int) (fr:Bool):zj4 T rw (.sl fr 1 (kL k xs)) Kc = Kc (kL k xs):=zyk _ (by simpa using zFM k xs) fr
theorem zyn [zaj] (xs:List ByteArray) (fr:Bool):zj4 T rw (.sl fr 1 (sL xs)) Kc = Kc (sL xs):=zyk _ (by simpa using zBV xs) fr
theorem zt1 [zaj] (xs:List (List Int)):zj4 T rw (.sl true 1 (iLL xs)) Kc = Kc (iLL xs):=by
 have:∀ p ∈ iLL xs,zq6 p = true:=by simpa using zAQ xs
 simp only [zj4,slK,true_and,true_or,eq_true this,or_true]
def zvk (c:List PV):Prop:=∀ p ∈ c,zq6 p = true
def zvl (r:Row) (ver:Nat) (K:List PV→Prop):Prop:=r.ver = ver∧match r.kind with | .nil=>K [] | .sli _ sz _ c=>sz = 1∧zvk c∧K c | _=>False
theorem zpE (j ver:Nat):zj4 T rw (.own j ver) Kc = zvl (rw j) ver Kc:=by
 unfold zj4 slK zvl
 dsimp only
 generalize (rw j).kind = kd
 cases kd with
 | sli e sz fz c =>
   dsimp only
   refine propext ⟨fun ⟨a,b,h,d⟩=>⟨a,b,?_,d⟩,fun ⟨a,b,h,d⟩=>⟨a,b,.inr ⟨rfl,h⟩,d⟩⟩
   rcases h with h | h
   ·intro p hp
    have:=h p hp
    cases p <;> simp [isV] at this
    exact this
   ·exact h.2
 | nil=>simp
 | _=>simp
theorem zpF (ver e:Nat) (fz:Bool) (c:List PV):zvl ⟨ver,.sli e 1 fz c⟩ ver Kc = (zvk c∧Kc c):=by simp [zvl]
theorem zpG (ver:Nat):zvl ⟨ver,.nil⟩ ver Kc = Kc []:=by simp [zvl]
theorem zt2:zvk [] = True:=by simp [zvk]
theorem zyo (xs:List Int):zvk (iL xs) = True:=by simp [zvk,iL,zq6,Value.oneCell']
theorem zyp (k:IntKind) (xs:List Int):zvk (kL k xs) = True:=by simp [zvk,kL,zq6,Value.oneCell']
theorem zyq (xs:List ByteArray):zvk (sL xs) = True:=by simp [zvk,sL,zq6,Value.oneCell']
theorem zyr (xs:List Bool):zvk (bL xs) = True:=eq_true fun p hp=>by
 simp only [bL,List.mem_map] at hp
 obtain ⟨x,_,rfl⟩:=hp
 rfl
theorem zt3 (xs:List (List Int)):zvk (iLL xs) = True:=by simp [zvk,iLL,zq6]
theorem zpH (j:Nat):[j].Nodup = True:=by simp
theorem zpI (i j:Nat):[i,j].Nodup = (i ≠ j):=by simp
theorem zys (j:Nat):(j < lent) = (j < 1000000):=(rfl)
theorem zGi (v u:Value) {Kn:List Nat→Prop}:znp rw (.v v) (.im (.v u)) Kn = (PV.v u = PV.v v∧Kn []):=(rfl)
def zpJ (r:Row) (j ver e sz:Nat) (c:List PV) (K:List Nat→Prop):Prop:=j < lent∧r.ver = ver∧(match r.kind with
 | .nil=>c = []∧K []
 | .sli e' sz' false c'=>e' = e∧sz' = sz∧c' = c∧K [j]
 | _=>False)
theorem zyt (j ver e sz:Nat) (c:List PV) {Kn:List Nat→Prop}:znp rw (.own j ver) (.fr e sz c) Kn = zpJ (rw j) j ver e sz c Kn:=(rfl)
theorem zmt (j ver e sz:Nat) (c c':List PV) {Kn:List Nat→Prop} (h:j < lent):zpJ ⟨ver,.sli e sz false c'⟩ j ver e sz c Kn = (c' = c∧Kn [j]):=by simp [zpJ,h]
theorem zt4 {t:Nat} {rv:RV}:zvn T s [.tmp t] rv = znp s.rw (s.sl t) rv List.Nodup:=(rfl)
theorem zpK {a:Nat} {t:TypeId} {rv:RV}:zvn T s [.cell a t] rv = zq7 s.rw (s.sl a) (kk fun m c off=>ldK T t m c off (kk fun p=>znp s.rw p rv List.Nodup)):=(rfl)
theorem zt5 {r1 r2:ResultVar} {rv:RV}:zvn T s [r1,r2] rv = zvm T s [r1,r2] (kk fun ps=>znp s.rw (.tup ps) rv List.Nodup):=(rfl)
theorem zmu {r1 r2 r3:ResultVar} {rv:RV}:zvn T s [r1,r2,r3] rv = zvm T s [r1,r2,r3] (kk fun ps=>znp s.rw (.tup ps) rv List.Nodup):=(rfl)
theorem zt6 (Kr:List PV→Prop):zvm T s [] (kk Kr) = Kr []:=(rfl)
theorem zt7 (t:Nat) (rs:List ResultVar) (Kr:List PV→Prop):zvm T s (.tmp t :: rs) (kk Kr) = evK (s.sl t) (kk fun p=>zvm T s rs (kk fun ps=>Kr (p :: ps))):=(rfl)
theorem zpL (a:Nat) (t:TypeId) (rs:List ResultVar) (Kr:List PV→Prop):zvm T s (.cell a t :: rs) (kk Kr) = zq7 s.rw (s.sl a) (kk fun m c off=>ldK T t m c off (kk fun p=>zvm T s rs (kk fun ps=>Kr (p :: ps)))):=(rfl)
theorem zt8 (e sz:Nat) (c:List PV) {Kn:List Nat→Prop}:znp rw (.v (.slice none 0 0)) (.fr e sz c) Kn = (c = []∧Kn []):=by simp [znp,zim,zdJ]
theorem zt9 (e sz:Nat) (c:List PV) {Kn:List Nat→Prop}:zyF rw (.v (.slice none 0 0)) (.fr e sz c) Kn = (c = []∧Kn []):=by simp [zyF,zim,zdJ]
theorem zua (e sz:Nat) (c:List PV) {Kn:List Nat→Prop}:zim rw (.v (.slice none 0 0)) (.fr e sz c) Kn = (c = []∧Kn []):=by simp [zim,zdJ]
theorem zmv [zaj] (d e sz:Nat) (y:Value) (c:List PV):zam s d (.tup [.ag [.fr e sz c],.im (.v y)]) = (s.row d ⟨(s.rw d).ver + 1,.sli e sz false c⟩).put (some d) (.tup [.ag [.own d ((s.rw d).ver + 1)],.v y]):=by
 unfold zam
 simp [zbs,zb9,leaves,zav,zaQ,zbI,zby,za8,zal,St.row,zgT]
 rfl
theorem zmw [zaj] (d e sz:Nat) (x y:Value) (c:List PV):zam s d (.tup [.ag [.im (.v x),.fr e sz c],.im (.v y)]) = (s.row d ⟨(s.rw d).ver + 1,.sli e sz false c⟩).put (some d) (.tup [.ag [.v x,.own d ((s.rw d).ver + 1)],.v y]):=by
 unfold zam
 simp [zbs,zb9,leaves,zav,zaQ,zbI,zby,za8,zal,St.row,zgT]
 rfl
theorem zpM [zaj] (d e sz:Nat) (y:Value) (c:List PV):zam s d (.tup [.ag [.fr e sz c],.im (.v y)]) = (s.row d ⟨(s.rw d).ver + 1,.sli e sz false c⟩).put (some d) (.tup [.ag [.own d ((s.rw d).ver + 1)],.v y]):=by
 unfold zam
 simp [zbs,zb9,leaves,zav,zaQ,zbI,zby,za8,zal,St.row,zgT]
 rfl
theorem zdy (d:Nat) (v:Value):zam s d (.im (.v v)) = s.put (some d) (.v v):=by
 unfold zam
 simp [leaves,zav,zaQ,zby,zgT]
theorem zub [zaj] {f:FuncId} {raw lent:List PV} {k d:Nat} {x:Value} {r:Row} {Ke:Ent→St→Prop} {Ka:RV→Prop} {us:Dm s} {u:Dm Ke} (rd:List Nat) (h:∀ s':St,s'.rw k = s.rw k→(∀ a ∈ rd,s'.rw a = s.rw a)→∀ K':St→Prop,K' ((s'.row k r).put (some d) (.v x))→askG P s' f raw (some d) K') (hd:d % 1000 ≠ k % 1000)
 (hk:Ke ⟨rd,.ids [d,k]⟩ ((s.row k r).put (some d) (.v x))):zjE P f lent Ka (zDn P f raw d (kk s us) (kk Ke u)) :=
 zAU (x:=.im (.v x)) (r:=r) rd (fun s' h1 h2 K' hk'=>h s' h1 h2 K' (by rw [zdy] at hk';exact hk')) hd (by rw [zdy];exact hk)
theorem ziU (d e sz:Nat) (c:List PV):zam s d (.fr e sz c) = (s.row d ⟨(s.rw d).ver + 1,.sli e sz false c⟩).put (some d) (.own d ((s.rw d).ver + 1)):=by
 unfold zam
 simp [leaves,zav,zaQ,zby,zal,St.row]
 rfl
theorem zpN [zaj] (d e sz:Nat) (c:List PV):zam s d (.ag [.fr e sz c]) = (s.row d ⟨(s.rw d).ver + 1,.sli e sz false c⟩).put (some d) (.ag [.own d ((s.rw d).ver + 1)]):=by
 unfold zam
 simp [zb9,leaves,zav,zaQ,zbI,za8,zby,zal,St.row]
 rfl
theorem zpO [zaj] (d e sz:Nat) (x:Value) (c:List PV):zam s d (.ag [.im (.v x),.fr e sz c]) = (s.row d ⟨(s.rw d).ver + 1,.sli e sz false c⟩).put (some d) (.ag [.v x,.own d ((s.rw d).ver + 1)]):=by
 unfold zam
 simp [zb9,leaves,zav,zaQ,zbI,za8,zby,zal,St.row,zgT]
 rfl
theorem zpP [zaj] (d e sz e2 sz2:Nat) (x y:Value) (c c2:List PV):zam s d (.ag [.im (.v x),.fr e sz c,.im (.v y),.fr e2 sz2 c2]) =
 ((s.row (d + 1000) ⟨(s.rw (d + 1000)).ver + 1,.sli e2 sz2 false c2⟩).row d ⟨(s.rw d).ver + 1,.sli e sz false c⟩).put (some d) (.ag [.v x,.own d ((s.rw d).ver + 1),.v y,.own (d + 1000) ((s.rw (d + 1000)).ver + 1)]):=by
 unfold zam
 simp [zb9,leaves,zav,zaQ,zbI,za8,zby,zal,St.row,zgT]
 rfl
theorem zpQ [zaj] (d:Nat) (x y:Value):zam s d (.tup [.im (.v x),.im (.v y)]) = s.put (some d) (.tup [.v x,.v y]):=by
 unfold zam
 simp [zbs,leaves,zav,zaQ,zbI,za8,zby,zal,St.row,zgT]
theorem zpR [zaj] (d e sz:Nat) (c:List PV) (y:Value):zam s d (.tup [.fr e sz c,.im (.v y)]) = (s.row d ⟨(s.rw d).ver + 1,.sli e sz false c⟩).put (some d) (.tup [.own d ((s.rw d).ver + 1),.v y]):=by
 unfold zam
 simp [zbs,leaves,zav,zaQ,zbI,za8,zby,zal,St.row,zgT]
 rfl
theorem imm_ag [zaj] (l:List RV):(RV.ag l).imm = .ag (l.map RV.imm):=RV.imm_ag l
theorem imm_tup [zaj] (l:List RV):(RV.tup l).imm = .tup (l.map RV.imm):=RV.imm_tup l
theorem zyu (ps:List PV) (l:List RV) {Kn:List Nat→Prop}:znp rw (.ag ps) (.ag l) Kn = zwk (zyF rw) ps l Kn:=(rfl)
theorem zuc (ps:List PV) (l:List RV) {Kn:List Nat→Prop}:znp rw (.tup ps) (.tup l) Kn = zwk (zyF rw) ps l Kn:=(rfl)
theorem zyv (ps:List PV) (l:List RV) {Kn:List Nat→Prop}:zyF rw (.ag ps) (.ag l) Kn = zwk (zim rw) ps l Kn:=(rfl)
theorem zud (f:PV→RV→(List Nat→Prop)→Prop) {Kn:List Nat→Prop}:zwk f [] [] Kn = Kn []:=(rfl)
theorem zpS (f:PV→RV→(List Nat→Prop)→Prop) (p:PV) (ps:List PV) (r:RV) (rs:List RV) {Kn:List Nat→Prop}:zwk f (p :: ps) (r :: rs) Kn = f p r (kk fun a=>zwk f ps rs (kk fun b=>Kn (a ++ b))):=(rfl)
theorem zCB (v u:Value) {Kn:List Nat→Prop}:zyF rw (.v v) (.im (.v u)) Kn = (PV.v u = PV.v v∧Kn []):=(rfl)
theorem zmx (e e2:Nat) (rows:List (List PV)) {Kn:List Nat→Prop}:zim rw (.v (.slice none 0 0)) (.tb e e2 rows) (kk Kn) = (rows = []∧Kn []):=by simp [zim,zdJ,kk]
theorem zCC (v u:Value) {Kn:List Nat→Prop}:zim rw (.v v) (.im (.v u)) Kn = (PV.v u = PV.v v∧Kn []):=(rfl)
theorem zue (j ver e sz:Nat) (c:List PV) {Kn:List Nat→Prop}:zyF rw (.own j ver) (.fr e sz c) Kn = zpJ (rw j) j ver e sz c Kn:=(rfl)
theorem zuf (j ver e sz:Nat) (c:List PV) {Kn:List Nat→Prop}:zim rw (.own j ver) (.fr e sz c) Kn = zpJ (rw j) j ver e sz c Kn:=(rfl)
theorem zCD (v:Value):(RV.im (.v v)).imm = .v v:=by simp [RV.imm,zgT]
theorem zCE (e sz:Nat) (c:List PV):(RV.fr e sz c).imm = .sl true sz c:=by simp [RV.imm]
theorem zug (rw:Nat→Row) (n:Nat) (k:IntKind) (x:Int):zcr rw (n + 1) (.v (.int k x)) = .v (.int k x):=(rfl)
theorem zpT (rw:Nat→Row) (n:Nat) (x:Bool):zcr rw (n + 1) (.v (.bool x)) = .v (.bool x):=(rfl)
theorem zj6 (rw:Nat→Row) (n:Nat) (x:ByteArray):zcr rw (n + 1) (.v (.string x)) = .v (.string x):=(rfl)
theorem zuh (rw:Nat→Row) (n:Nat):zcr rw (n + 1) (.v (.slice none 0 0)) = .sl false 1 []:=(rfl)
theorem zyw (rw:Nat→Row) (n:Nat) (fr:Bool) (sz:Nat) (c:List PV):zcr rw (n + 1) (.sl fr sz c) = .sl false sz c:=(rfl)
theorem zyx (rw:Nat→Row) (n:Nat) (c:List PV):zcr rw (n + 1) (.ag c) = .ag (c.map (zcr rw n)):=(rfl)
theorem zpU (rw:Nat→Row) (n:Nat) (fr:Bool) (c:List PV) (o:Nat):zcr rw (n + 1) (.eref fr c o) = .eref false c o:=(rfl)
def zj7 (rw:Nat→Row) (n:Nat) (r:Row) (ver off:Nat):PV:=if r.ver = ver then (match r.kind with | .box _ c=>.eref false (c.map (zcr rw n)) off | .sli _ _ _ c=>.eref false c off | _=>.junk) else .junk
theorem zui (rw:Nat→Row) (n j ver off:Nat):zcr rw (n + 1) (.ref j ver off) = zj7 rw n (rw j) ver off:=(rfl)
theorem zj8 (rw:Nat→Row) (n ver off:Nat) (t:TypeId) (c:List PV):zj7 rw n ⟨ver,.box t c⟩ ver off = .eref false (c.map (zcr rw n)) off:=by simp [zj7]
theorem zj9 (rw:Nat→Row) (n ver off e z:Nat) (fz:Bool) (c:List PV):zj7 rw n ⟨ver,.sli e z fz c⟩ ver off = .eref false c off:=by simp [zj7]
theorem zuj (rw:Nat→Row) (n:Nat) (f:FuncId) (c:List PV):zcr rw (n + 1) (.clo f c) = .clo f (c.map (zcr rw n)):=(rfl)
def zfU (rw:Nat→Row) (n:Nat) (r:Row) (ver:Nat):PV:=if r.ver = ver then (match r.kind with | .nil=>.sl false 1 [] | .sli _ sz _ c=>.sl false sz c | .tab _ c=>.sl false 1 (c.map (zlj rw)) | _=>.junk) else .junk
theorem zuk (rw:Nat→Row) (n j ver:Nat):zcr rw (n + 1) (.own j ver) = zfU rw n (rw j) ver:=(rfl)
theorem zka (rw:Nat→Row) (n:Nat) (ver e:Nat) (c:List PV):zfU rw n ⟨ver,.tab e c⟩ ver = .sl false 1 (c.map (zlj rw)):=by simp [zfU]
theorem zkb (rw:Nat→Row) (n:Nat) (ver e sz:Nat) (fz:Bool) (c:List PV):zfU rw n ⟨ver,.sli e sz fz c⟩ ver = .sl false sz c:=by simp [zfU]
theorem zkc (rw:Nat→Row) (n:Nat) (ver:Nat):zfU rw n ⟨ver,.nil⟩ ver = .sl false 1 []:=by simp [zfU]
end
def zyy:PV→Prop | .sl _ sz c=>c.length ≤ 9223372036854775807 * sz | _=>True
def zkd:PV→Prop | .sl _ sz c=>c.length ≤ 9223372036854775807 * sz∧∀ p ∈ c,zyy p | .ag c=>∀ p ∈ c,zyy p | .eref _ c _=>∀ p ∈ c,zyy p | _=>True
def zke:PV→Prop | .sl _ sz c=>c.length ≤ 9223372036854775807 * sz∧∀ p ∈ c,zkd p | .ag c=>∀ p ∈ c,zkd p | .eref _ c _=>∀ p ∈ c,zkd p | .clo _ c=>∀ p ∈ c,zkd p | _=>True
def zAV:List PV→Prop | []=>True | p :: ps=>zke p∧zAV ps
theorem znl {w:World} {E:Env} {lo:Nat} {p:PV} {x:Value} (h:Rep w E lo p x):zyy p:=by
 cases h <;> try trivial
 next sz len cap cells a cs hl hc hm hr hh =>
  show cells.length ≤ 9223372036854775807 * sz
  rw [hl]
  exact Nat.mul_le_mul_right _ (Nat.le_trans hc hm)
theorem ziV [zaj] {w:World} {E:Env} {lo:Nat} {p:PV} {x:Value} (h:Rep w E lo p x):zkd p:=by
 cases h <;> try trivial
 case sl fr sz len cap cells a cs hl hc hm hr hh =>
  refine ⟨?_,fun p hp=>?_⟩
  ·rw [hl];exact Nat.mul_le_mul_right _ (Nat.le_trans hc hm)
  ·obtain ⟨i,hi,rfl⟩:=List.getElem_of_mem hp;exact znl (hh i hi)
 case eref fr cells off b o cs hr hh=>intro p hp;obtain ⟨i,hi,rfl⟩:=List.getElem_of_mem hp;exact znl (hh i hi)
 case ag cells vs hl hh=>intro p hp;obtain ⟨i,hi,rfl⟩:=List.getElem_of_mem hp;exact znl (hh i hi (by omega))
theorem zAW [zaj] {w:World} {E:Env} {lo:Nat} {p:PV} {x:Value} (h:Rep w E lo p x):zke p:=by
 cases h <;> try trivial
 case sl fr sz len cap cells a cs hl hc hm hr hh =>
  refine ⟨?_,fun p hp=>?_⟩
  ·rw [hl];exact Nat.mul_le_mul_right _ (Nat.le_trans hc hm)
  ·obtain ⟨i,hi,rfl⟩:=List.getElem_of_mem hp;exact ziV (hh i hi)
 case eref fr cells off b o cs hr hh=>intro p hp;obtain ⟨i,hi,rfl⟩:=List.getElem_of_mem hp;exact ziV (hh i hi)
 case ag cells vs hl hh=>intro p hp;obtain ⟨i,hi,rfl⟩:=List.getElem_of_mem hp;exact ziV (hh i hi (by omega))
 case clo f cells vs hl hh=>intro p hp;obtain ⟨i,hi,rfl⟩:=List.getElem_of_mem hp;exact ziV (hh i hi (by omega))
theorem zyz [zaj] {w:World} {E:Env} {lo:Nat} {ps:List PV} {vs:List Value} (h:zbf w E lo ps vs):zAV ps:=by
 have:∀ p ∈ ps,zke p:=by
  intro p hp
  obtain ⟨i,hi,rfl⟩:=List.getElem_of_mem hp
  exact zAW (h.2 i hi (by rw [← h.1];exact hi))
 clear h
 induction ps with
 | nil=>trivial
 | cons p ps ih=>exact ⟨this p (by simp),ih fun q hq=>this q (by simp [hq])⟩
theorem zbm:zAV [] = True:=(rfl)
theorem zaZ (p:PV) (ps:List PV):zAV (p :: ps) = (zke p∧zAV ps):=(rfl)
theorem zhi (x:Value):zke (.v x) = True:=(rfl)
theorem zde (x:Value):zkd (.v x) = True:=(rfl)
theorem zcd (fr:Bool) (xs:List Int):zkd (.sl fr 1 (iL xs)) = (xs.length ≤ 9223372036854775807):=by simp [zkd,zyy,iL]
theorem zgE (fr:Bool) (xs:List Int):zke (.sl fr 1 (iL xs)) = (xs.length ≤ 9223372036854775807):=by simp [zke,zkd,iL]
theorem zyA [zaj] (fr:Bool) (xs:List (List Int)):zke (.sl fr 1 (iLL xs)) = (xs.length ≤ 9223372036854775807∧∀ r ∈ xs,r.length ≤ 9223372036854775807):=by simp [zke,iLL,zcd]
theorem zbV (x y:PV):zke (.ag [x,y]) = (zkd x∧zkd y):=by simp [zke]
theorem AC.go [zaj] {f:FuncId} {fn:Func} {c:Code} {rs:List ResultVar} {args:List PV} {rv:RV} (hT:T.Ok P) (hm:P.follows .mixedOrders = true) (hf:P.funcs[f]? = some fn) (hname:(fn.name == "runtime.NumGoroutine") = false)
 (hb:fn.body = some c) (hr:fn.results.toList = rs) (hfit:(fits fn.ntmps c && decide (args.length ≤ fn.ntmps) && decide (fn.results.toList.length ≤ 4)) = true) (h:zAV args→cwp P T c (zHn T rs rv) (St.init args)):AC P f args rv:=by
 subst hr
 refine ⟨⟨fn,hf,hname,by rw [hb];rfl⟩,fun w vals hphi hv=>?_⟩
 exact (AC.of hT hm hf hname hb hfit (h (zyz hv))).2 w vals hphi hv
theorem AM.go [zaj] {f:FuncId} {fn:Func} {c:Code} {rs:List ResultVar} {args:List PV} {ins:List LR} {outs:List (List PV)} {x:Value} (hT:T.Ok P) (hm:P.follows .mixedOrders = true) (hf:P.funcs[f]? = some fn) (hname:(fn.name == "runtime.NumGoroutine") = false)
 (hb:fn.body = some c) (hr:fn.results.toList = rs) (hfit:(fits fn.ntmps c && decide (args.length ≤ fn.ntmps) && decide (fn.results.toList.length ≤ 4)) = true) (hi:∀ r ∈ ins,zb8 r.c) (ho:∀ c ∈ outs,zb8 c) (hlen:outs.length = ins.length)
 (h:(∀ r ∈ ins,r.c.length ≤ 9223372036854775807 * r.sz)→cwp P T c (zHm T rs ins outs x) (St.initM args ins)):AM P f args ins outs x:=by
 subst hr
 exact AM.of hT hm hf hname hb hfit hi ho hlen h
theorem zc2 [zaj] (xs:List Int):zb8 (iL xs):=by have:=zw3 xs;unfold zb8;rw [this];trivial
theorem zAX [zaj] (xs:List ByteArray):zb8 (sL xs):=by have:=zBV xs;unfold zb8;rw [this];trivial
theorem ziW (args:List PV) (ins:List LR) (i:Nat):(St.initM args ins).sl i = args.getD i .junk:=(rfl)
theorem ziX (args:List PV) (ins:List LR) (i:Nat):(St.initM args ins).rw i = inR ins i:=(rfl)
theorem zul (ins:List LR) (k:Nat) (h:k < 1000000):inR ins k = ⟨0,.dead⟩:=by
 unfold inR;rw [if_neg (by show ¬ (1000000 ≤ k);omega)]
theorem zAY [zaj] (e sz:Nat) (c:List PV) (l:List LR):inR (⟨e,sz,c⟩ :: l) 1000000 = ⟨1,.sli e sz false c⟩:=zqm (ins:=⟨e,sz,c⟩ :: l) (i:=0) rfl
theorem zAZ [zaj] (r:LR) (e sz:Nat) (c:List PV) (l:List LR):inR (r :: ⟨e,sz,c⟩ :: l) 1000001 = ⟨1,.sli e sz false c⟩:=zqm (ins:=r :: ⟨e,sz,c⟩ :: l) (i:=1) rfl
theorem zum (rs:List ResultVar) (ins:List LR) (outs:List (List PV)) (x:Value):zHm T rs ins outs x .ret s = zDr T s rs ins outs x:=(rfl)
theorem zpV (rs:List ResultVar) (ins:List LR) (outs:List (List PV)) (x:Value):zHm T rs ins outs x .norm s = zDr T s rs ins outs x:=(rfl)
theorem zun (r:Nat) (ins:List LR) (outs:List (List PV)) (x:Value):zDr T s [.tmp r] ins outs x = (zrv s.rw 0 ins outs∧s.sl r = .v x):=(rfl)
theorem zpW (ins:List LR) (outs:List (List PV)) (x:Value):zDr T s [] ins outs x = (zrv s.rw 0 ins outs∧x = .tuple #[]):=(rfl)
theorem zyB (rw:Nat→Row) (e sz:Nat) (a c:List PV):zrv rw 0 [⟨e,sz,a⟩] [c] = (rw 1000000 = ⟨1,.sli e sz false c⟩):=by
 show (rw 1000000 = ⟨1,.sli e sz false c⟩∧True) = _
 rw [and_true]
theorem zyC (rw:Nat→Row) (e sz e' sz':Nat) (a c a' c':List PV):zrv rw 0 [⟨e,sz,a⟩,⟨e',sz',a'⟩] [c,c'] = (rw 1000000 = ⟨1,.sli e sz false c⟩∧rw 1000001 = ⟨1,.sli e' sz' false c'⟩):=by
 show (rw 1000000 = ⟨1,.sli e sz false c⟩∧rw 1000001 = ⟨1,.sli e' sz' false c'⟩∧True) = _
 rw [and_true]
theorem znm (j v e sz:Nat) (a c:List PV):s.wrote [(j,v)] [⟨e,sz,a⟩] [c] = s.row j ⟨v,.sli e sz false c⟩:=by
 unfold St.wrote St.row zdB
 congr 1
 funext k
 by_cases h:k = j
 ·subst h;simp
 ·have:(j == k) = false:=by simp;exact fun e=>h e.symm
  simp [h,this]
theorem znn [zaj] (j v e sz j' v' e' sz':Nat) (a c a' c':List PV) (hj:j ≠ j'):s.wrote [(j,v),(j',v')] [⟨e,sz,a⟩,⟨e',sz',a'⟩] [c,c'] = (s.row j ⟨v,.sli e sz false c⟩).row j' ⟨v',.sli e' sz' false c'⟩:=by
 have hn:([(j,v),(j',v')].map (·.1)).Nodup:=by simpa using hj
 unfold St.wrote St.row
 congr 1
 funext k
 show zdB s.rw [(j,v),(j',v')] [⟨e,sz,a⟩,⟨e',sz',a'⟩] [c,c'] k = if k = j' then ⟨v',.sli e' sz' false c'⟩ else if k = j then ⟨v,.sli e sz false c⟩ else s.rw k
 by_cases h:k = j'
 ·subst h
  rw [if_pos rfl]
  exact zkt hn (i:=1) (j:=(k,v')) (r:=⟨e',sz',a'⟩) (c:=c') rfl rfl rfl
 ·rw [if_neg h]
  by_cases h':k = j
  ·subst h'
   rw [if_pos rfl]
   exact zkt hn (i:=0) (j:=(k,v)) (r:=⟨e,sz,a⟩) (c:=c) rfl rfl rfl
  ·rw [if_neg h']
   exact zmI (by simp [h,h'])
theorem AG.go [zaj] {f:FuncId} {fn:Func} {c:Code} {rs:List ResultVar} {args:List PV} {R0:Nat→Row} {post:(Nat→Row)→PV→Prop} (hT:T.Ok P) (hm:P.follows .mixedOrders = true) (hf:P.funcs[f]? = some fn) (hname:(fn.name == "runtime.NumGoroutine") = false)
 (hb:fn.body = some c) (hr:fn.results.toList = rs) (hfit:(fits fn.ntmps c && decide (args.length ≤ fn.ntmps) && decide (fn.results.toList.length ≤ 4)) = true)
 (h:zAV args→(∀ k,zmA (R0 k).kind)→∀ s:St,(∀ i,s.sl i = args.getD i .junk)→(∀ k,s.rw k = R0 k)→cwp P T c (zCG T rs post) s):AG P f args R0 post:=by
 subst hr
 refine ⟨⟨fn,hf,hname,by rw [hb];rfl⟩,fun w M E vals hw hR hv=>?_⟩
 exact (AG.of hT hm hf hname hb hfit (fun hl=>h (zyz hv) hl _ (fun _=>rfl) (fun _=>rfl))).2 w M E vals hw hR hv
theorem zuo (rs:List ResultVar) (post:(Nat→Row)→PV→Prop):zCG T rs post .ret s = zwj T s rs post:=(rfl)
theorem zpX (rs:List ResultVar) (post:(Nat→Row)→PV→Prop):zCG T rs post .norm s = zwj T s rs post:=(rfl)
theorem zup (r:Nat) (post:(Nat→Row)→PV→Prop):zwj T s [.tmp r] post = post s.rw (s.sl r):=(rfl)
theorem zpY (post:(Nat→Row)→PV→Prop):zwj T s [] post = post s.rw (.tup []):=(rfl)
theorem zpZ (a:Nat) (t:TypeId) (post:(Nat→Row)→PV→Prop):zwj T s [.cell a t] post = zq7 s.rw (s.sl a) (kk fun m c off=>ldK T t m c off (kk fun p=>post s.rw p)):=(rfl)
theorem zuq (r r2:Nat) (post:(Nat→Row)→PV→Prop):zwj T s [.tmp r,.tmp r2] post = post s.rw (.tup [s.sl r,s.sl r2]):=(rfl)
theorem zan {n:Int} (h:-9223372036854775808 ≤ n) (h2:n ≤ 9223372036854775807):IntKind.i64.wrap n = n:=by
 simp [IntKind.wrap,IntKind.bits,IntKind.signed]
 omega
section
variable {Kp:PV→Prop}
theorem zcM [zaj] (k:Nat) (p:List Nat) {t:TypeId} (o:Nat) (h0:(T t).k.agg = false) (h1:0 < (T t).size):ldK T t .asis (zay k p) o Kp = (o < p.length∧Kp (.own (sid k (p.getD o 0)) 1)):=by
 have:=zeK (T:=T) (Kp:=Kp) (fun j=>PV.own (sid k j) 1) 0 p (t:=t) (m:=.asis) o (fun j=>.own (sid k j) 1) (fun _=>rfl) h0 h1
 exact this
theorem zHk (k:Nat) (p:List Nat) (i j:Nat):spl (zay k p) i [.own (sid k j) 1] = zay k (p.set i j):=by
 show (zay k p).set i (.own (sid k j) 1) = _
 unfold zay;rw [List.map_set]
theorem zA0 (k:Nat) (p:List Nat) (j:Nat):zay k p ++ [.own (sid k j) 1] = zay k (p ++ [j]):=by simp [zay]
theorem zgF (k v e e2:Nat) (p:List Nat) (rows:List (List PV)):(s.tabbed k v e e2 p rows).sl = s.sl:=(rfl)
theorem zfh [zaj] (k v e e2:Nat) (p:List Nat) (rows:List (List PV)):(s.tabbed k v e e2 p rows).rw k = ⟨v,.tab e (zay k p)⟩:=zgO
theorem zgG [zaj] (k v e e2:Nat) (p:List Nat) (rows:List (List PV)) (j:Nat) (h:(j % 1000 == k % 1000) = false):(s.tabbed k v e e2 p rows).rw j = s.rw j:=by
 have h:=beq_eq_false_iff_ne.1 h
 refine zhm (fun e=>h (by rw [e])) fun x _ e=>h ?_
 rw [e,zbp];omega
theorem zp0 (k v:Nat) (dst:Option Nat):TR.self.next s k v dst K = K (s.put dst (.own k v)):=(rfl)
theorem zmy (k v:Nat) (dst:Option Nat) (x:Value):(TR.selfx x).next s k v dst K = K (s.put dst (.tup [.own k v,.v x])):=(rfl)
theorem zyD (k v d:Nat) (r:RV):(TR.rv r).next s k v (some d) K = (d % 1000 ≠ k % 1000∧K (zam s d r)):=(rfl)
theorem zp1 (k v:Nat) (r:RV):(TR.rv r).next s k v none K = K s:=(rfl)
theorem ziY (args:List PV) (e e2:Nat) (rows:List (List PV)) (i:Nat):(St.initT args e e2 rows).sl i = args.getD i .junk:=(rfl)
theorem ziZ (args:List PV) (e e2:Nat) (rows:List (List PV)) (i:Nat):(St.initT args e e2 rows).rw i = inT e e2 rows i:=(rfl)
theorem zno [zaj] (e e2:Nat) (rows:List (List PV)) (k:Nat) (h:k < 1000000):inT e e2 rows k = ⟨0,.dead⟩:=zyY h
theorem zd7 [zaj] (e e2:Nat) (rows:List (List PV)):inT e e2 rows 1000000 = ⟨1,.tab e (zay 1000000 (List.range rows.length))⟩:=zcU
theorem zur (rs:List ResultVar) (e e2 n:Nat) (rows:List (List PV)) (res:TR):zHl T rs e e2 n rows res .ret s = zCH T s rs e e2 n rows res:=(rfl)
theorem zp2 (rs:List ResultVar) (e e2 n:Nat) (rows:List (List PV)) (res:TR):zHl T rs e e2 n rows res .norm s = zCH T s rs e e2 n rows res:=(rfl)
def zus (rw:Nat→Row) (e e2 n:Nat) (rows:List (List PV)):Prop:=∃ q:List Nat,TabIs rw lent 1 e e2 q rows∧q.Perm (List.range n)
theorem zp3 (r e e2 n:Nat) (rows:List (List PV)):zCH T s [.tmp r] e e2 n rows .self = (zus s.rw e e2 n rows∧s.sl r = .own 1000000 1):=(rfl)
theorem zmz (r r2 e e2 n:Nat) (rows:List (List PV)) (x:Value):zCH T s [.tmp r,.tmp r2] e e2 n rows (.selfx x) = (zus s.rw e e2 n rows∧s.sl r = .own 1000000 1∧s.sl r2 = .v x):=(rfl)
theorem zyE (rs:List ResultVar) (e e2 n:Nat) (rows:List (List PV)) (r:RV):zCH T s rs e e2 n rows (.rv r) = (zus s.rw e e2 n rows∧zvn T s rs r):=(rfl)
theorem zgH [zaj] (d e e2:Nat) (rows:List (List PV)):(zam s d (.tb e e2 rows)).sl d = .own d ((s.rw d).ver + 1):=by
 unfold zam
 rw [zaJ]
 rfl
theorem zd8 [zaj] (d e e2 t:Nat) (rows:List (List PV)) (h:t ≠ d):(zam s d (.tb e e2 rows)).sl t = s.sl t:=by
 unfold zam
 rw [zbb _ _ _ _ h]
theorem zgI [zaj] (d e e2 j:Nat) (rows:List (List PV)) (h:(j % 1000 == d % 1000) = false):(zam s d (.tb e e2 rows)).rw j = s.rw j:=by
 have h:=beq_eq_false_iff_ne.1 h
 unfold zam
 rw [zep]
 show zav s.rw d (leaves (.tb e e2 rows)) 0 j = s.rw j
 rw [zcC]
 refine zcj _ _ _ _ _ fun i _ e=>h ?_
 rw [e];unfold zal;omega
theorem zp4 [zaj] (d e e2:Nat) (rows:List (List PV)) {i:Nat} (h:i < rows.length):(zam s d (.tb e e2 rows)).rw (sid d i) = ⟨(s.rw (sid d i)).ver + 1,.sli e2 1 false (rows.getD i [])⟩:=by
 have hrw:(zam s d (.tb e e2 rows)).rw = zhn s.rw d (zbe s.rw d (leaves (.tb e e2 rows)) 0) 0:=by
  unfold zam;rw [zep];exact zcC _ _ _ _
 have hl:(leaves (.tb e e2 rows)).length = rows.length + 1:=by rw [leaves];simp
 have h1:i + 1 < (zbe s.rw d (leaves (.tb e e2 rows)) 0).length:=by rw [zaX,hl];omega
 have h2:i + 1 < (leaves (.tb e e2 rows)).length:=by rw [hl];omega
 have:=zdi s.rw d (zbe s.rw d (leaves (.tb e e2 rows)) 0) 0 (i + 1) h1
 rw [Nat.zero_add] at this
 rw [hrw]
 show zhn s.rw d _ 0 (zal d (i + 1)) = _
 rw [this,zc9 _ _ _ _ _ h2,Nat.zero_add]
 have h3:(leaves (.tb e e2 rows))[i + 1] = (e2,some 1,rows[i]):=by simp [leaves]
 rw [h3]
 simp [zbD,sid,List.getD,h]
theorem zdR [zaj] (d e e2:Nat) (rows:List (List PV)):(zam s d (.tb e e2 rows)).rw d = ⟨(s.rw d).ver + 1,.tab e (zaP s.rw d 0 rows.length)⟩:=by
 have hrw:(zam s d (.tb e e2 rows)).rw = zhn s.rw d (zbe s.rw d (leaves (.tb e e2 rows)) 0) 0:=by
  unfold zam;rw [zep];exact zcC _ _ _ _
 have hl:(leaves (.tb e e2 rows)).length = rows.length + 1:=by rw [leaves];simp
 have h1:0 < (zbe s.rw d (leaves (.tb e e2 rows)) 0).length:=by rw [zaX,hl];omega
 have h2:0 < (leaves (.tb e e2 rows)).length:=by rw [hl];omega
 have:=zdi s.rw d (zbe s.rw d (leaves (.tb e e2 rows)) 0) 0 0 h1
 rw [Nat.zero_add] at this
 rw [hrw]
 have hd:zal d 0 = d:=by unfold zal;omega
 have e1:zhn s.rw d (zbe s.rw d (leaves (.tb e e2 rows)) 0) 0 d = zhn s.rw d (zbe s.rw d (leaves (.tb e e2 rows)) 0) 0 (zal d 0):=by rw [hd]
 rw [e1,this,zc9 _ _ _ _ _ h2]
 have h3:(leaves (.tb e e2 rows))[0] = (e,none,List.replicate rows.length .junk):=by simp [leaves]
 rw [h3]
 simp [zbD,hd]
theorem zkf [zaj] (d j:Nat):zal d (0 + 1 + j) = sid d j:=by rw [zbp];unfold zal;omega
theorem zp5 [zaj] (d e e2:Nat) (rows:List (List PV)) (h:∀ i,i < rows.length→(s.rw (sid d i)).ver = 0):TabIs (zam s d (.tb e e2 rows)).rw d ((s.rw d).ver + 1) e e2 (List.range rows.length) rows:=by
 refine ⟨?_,by simp,fun i hi=>?_⟩
 ·rw [zdR]
  congr 2
  unfold zaP zay
  refine List.map_congr_left fun j hj=>?_
  rw [zkf,h j (List.mem_range.1 hj)]
 ·have hi':i < rows.length:=by simpa using hi
  have:(List.range rows.length).getD i 0 = i:=by simp [List.getD,hi']
  rw [this,zp4 d e e2 rows hi',h i hi']
theorem zru [zaj] (d e e2:Nat) (rows:List (List PV)):(zaP s.rw d 0 rows.length).map (zlj (zam s d (.tb e e2 rows)).rw) = rows.map fun r=>.sl false 1 r:=by
 refine List.ext_getElem (by simp [zaP]) fun i a b=>?_
 have hi:i < rows.length:=by simpa using b
 have h2:rows.getD i [] = rows[i]:=by simp [List.getD,hi]
 rw [List.getElem_map,List.getElem_map]
 simp only [zaP,List.getElem_map,List.getElem_range]
 rw [zkf]
 simp only [zlj,zp4 d e e2 rows hi,if_true,h2]
end
theorem zgJ (k:Nat) (p:List Nat):(s.killed k p).sl = s.sl:=(rfl)
theorem zgK [zaj] (k:Nat) (p:List Nat) (j:Nat) (h:(j % 1000 == k % 1000) = false):(s.killed k p).rw j = s.rw j:=by
 have h:=beq_eq_false_iff_ne.1 h
 refine zb7 fun hj=>h ?_
 rcases hj with rfl | ⟨x,_,rfl⟩
 ·rfl
 ·exact zaa _ _
theorem zkg [zaj] {rw0:Nat→Row} (d e e2:Nat) (rows:List (List PV)) (h:∀ i,s.rw (sid d i) = rw0 (sid d i)):(zaP rw0 d 0 rows.length).map (zlj (zam s d (.tb e e2 rows)).rw) = rows.map fun r=>.sl false 1 r:=by
 have:zaP rw0 d 0 rows.length = zaP s.rw d 0 rows.length:=by
  unfold zaP
  refine List.map_congr_left fun j _=>?_
  rw [zkf,h j]
 rw [this,zru]
theorem zCF (M:List (List Int)):(M.map iL).map (fun r=>PV.sl false 1 r) = iLL M:=by
 unfold iLL
 rw [List.map_map];rfl
def zil [zaj] {α:Type} (I:α→St→Prop) (μ:α→Nat) (m:Nat) (s2:St):Prop:=∃ x' s3,Wk s2 s3∧I x' s3∧μ x' < m
theorem zah [zaj] {α:Type} {I:α→St→Prop} {μ:α→Nat} {m:Nat} (x':α) (h:I x' s) (hm:μ x' < m):zil I μ m s:=⟨x',s,Wk.refl s,h,hm⟩
theorem zar [zaj] {α:Type} (I:α→St→Prop) (μ:α→Nat) (x0:α) {b:(AX→St→Prop)→St→Prop} {u:Dm b} {v:Dm Q} (h0:I x0 s) (h:∀ x s1,I x s1→b (AX.seq (zil I μ (μ x)) Q) s1):zp9 (kk b u) (kk Q v) s :=
 ⟨α,I,μ,⟨x0,s,Wk.refl s,h0⟩,h⟩
end
end Go.Abs
