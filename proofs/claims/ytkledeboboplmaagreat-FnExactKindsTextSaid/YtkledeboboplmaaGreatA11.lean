/- DERIVED by an AI agent. Rules by which simp carries a text out, head first. No program in sight. -/
import Derived.Test.YtkledeboboplmaaGreatA10
namespace Go.Abs
set_option linter.unusedSimpArgs false
set_option linter.unusedVariables false
def iL (xs:List Int):List PV:=xs.map fun n=>.v (.int .i64 n)
def kL (k:IntKind) (xs:List Int):List PV:=xs.map fun n=>.v (.int k n)
def sL (xs:List ByteArray):List PV:=xs.map fun n=>.v (.string n)
def bL (xs:List Bool):List PV:=xs.map fun n=>.v (.bool n)
def iLL (xss:List (List Int)):List PV:=xss.map fun r=>.sl false 1 (iL r)
abbrev zaH (xs:List Int):PV:=.sl false 1 (iL xs)
abbrev zJX (xs:List ByteArray):PV:=.sl false 1 (sL xs)
abbrev zAL (xss:List (List Int)):PV:=.sl false 1 (iLL xss)
abbrev int (n:Int):PV:=.v (.int .i64 n)
abbrev u64 (n:Int):PV:=.v (.int .u64 n)
abbrev bool (b:Bool):PV:=.v (.bool b)
abbrev str (s:ByteArray):PV:=.v (.string s)
theorem zok (xs:List Int):(iL xs).length = xs.length:=by simp [iL]
theorem zol (k:IntKind) (xs:List Int):(kL k xs).length = xs.length:=by simp [kL]
theorem zom (xs:List ByteArray):(sL xs).length = xs.length:=by simp [sL]
theorem zon (xs:List Bool):(bL xs).length = xs.length:=by simp [bL]
theorem zhk (xs:List (List Int)):(iLL xs).length = xs.length:=by simp [iLL]
theorem zoo (xs ys:List Int):iL xs ++ iL ys = iL (xs ++ ys):=by simp [iL]
theorem zwH (xs:List Int) (n:Int):iL xs ++ [.v (.int .i64 n)] = iL (xs ++ [n]):=by simp [iL]
theorem zop (k:IntKind) (xs ys:List Int):kL k xs ++ kL k ys = kL k (xs ++ ys):=by simp [kL]
theorem zwI (k:IntKind) (xs:List Int) (n:Int):kL k xs ++ [.v (.int k n)] = kL k (xs ++ [n]):=by simp [kL]
theorem zwJ (xs:List ByteArray) (n:ByteArray):sL xs ++ [.v (.string n)] = sL (xs ++ [n]):=by simp [sL]
theorem zoq (xs ys:List ByteArray):sL xs ++ sL ys = sL (xs ++ ys):=by simp [sL]
theorem zng (xs:List (List Int)) (r:List Int):iLL xs ++ [.sl false 1 (iL r)] = iLL (xs ++ [r]):=by simp [iLL]
theorem zlB (xs ys:List (List Int)):iLL xs ++ iLL ys = iLL (xs ++ ys):=by simp [iLL]
theorem zwK (xs:List Int) (n:Nat):(iL xs).take n = iL (xs.take n):=by simp [iL]
theorem zwL (xs:List Int) (n:Nat):(iL xs).drop n = iL (xs.drop n):=by simp [iL]
theorem zwM (xs:List ByteArray) (n:Nat):(sL xs).take n = sL (xs.take n):=by simp [sL]
theorem zwN (xs:List ByteArray) (n:Nat):(sL xs).drop n = sL (xs.drop n):=by simp [sL]
theorem zsD (xs:List (List Int)) (n:Nat):(iLL xs).take n = iLL (xs.take n):=by simp [iLL]
theorem zsE (xs:List (List Int)) (n:Nat):(iLL xs).drop n = iLL (xs.drop n):=by simp [iLL]
theorem zCj (xs:List Int) (i:Nat) (n:Int):spl (iL xs) i [.v (.int .i64 n)] = iL (xs.set i n):=by simp [spl,iL]
theorem zCk (a p:PV) (c:List PV):spl (a :: c) 0 [p] = p :: c:=by simp [spl]
theorem zCl (a b p:PV) (c:List PV):spl (a :: b :: c) 1 [p] = a :: p :: c:=by simp [spl]
theorem zCm (a b d p:PV) (c:List PV):spl (a :: b :: d :: c) 2 [p] = a :: b :: p :: c:=by simp [spl]
theorem zCn (a b d e p:PV) (c:List PV):spl (a :: b :: d :: e :: c) 3 [p] = a :: b :: d :: p :: c:=by simp [spl]
theorem zCo (a b p q:PV):spl [a,b] 0 [p,q] = [p,q]:=by simp [spl]
theorem zCp (a b c d p q:PV):spl [a,b,c,d] 0 [p,q] = [p,q,c,d]:=by simp [spl]
theorem zwO (a b c d p q:PV):spl [a,b,c,d] 2 [p,q] = [a,b,p,q]:=by simp [spl]
theorem zCq (a b c d p q r s:PV):spl [a,b,c,d] 0 [p,q,r,s] = [p,q,r,s]:=by simp [spl]
theorem zCr (xs:List Bool) (i:Nat) (n:Bool):spl (bL xs) i [.v (.bool n)] = bL (xs.set i n):=by simp [spl,bL]
theorem zwP (xs:List (List Int)) (i:Nat) (r:List Int):spl (iLL xs) i [.sl false 1 (iL r)] = iLL (xs.set i r):=by simp [spl,iLL]
theorem zcH (n:Nat) (x:Int):List.replicate n (PV.v (.int .i64 x)) = iL (List.replicate n x):=by simp [iL]
theorem zeI (n:Nat) (x:Bool):List.replicate n (PV.v (.bool x)) = bL (List.replicate n x):=by simp [bL]
theorem zwQ (xs:List Int):(∀ p ∈ iL xs,isV p = true) = True:=by simp [iL,isV,Value.oneCell']
theorem zFO (k:IntKind) (xs:List Int):(∀ p ∈ kL k xs,isV p = true) = True:=by simp [kL,isV,Value.oneCell']
theorem zCs (xs:List ByteArray):(∀ p ∈ sL xs,isV p = true) = True:=by simp [sL,isV,Value.oneCell']
theorem zAX (xs:List (List Int)):(∀ p ∈ iLL xs,zrj p = true) = True:=by simp [iLL,zrj]
theorem zwR (k:IntKind) (n:Int):(Value.int k n).oneCell' = true:=(rfl)
theorem zsF (b:Bool):(Value.bool b).oneCell' = true:=(rfl)
theorem zlC (b:ByteArray):(Value.string b).oneCell' = true:=(rfl)
theorem zor (a:Option Addr) (l c:Nat):(Value.slice a l c).oneCell' = true:=(rfl)
theorem ziH (s:St) (p:PV):s.put none p = s:=(rfl)
theorem zeq (s:St) (d:Option Nat) (p:PV):(s.put d p).rw = s.rw:=by cases d <;> rfl
theorem zsG (s:St) (k:Nat) (r:Row):(s.row k r).sl = s.sl:=(rfl)
theorem zaA (s:St) (k:Nat) (r:Row):(s.row k r).rw k = r:=by simp [St.row]
theorem zar (s:St) (k j:Nat) (r:Row) (h:j ≠ k):(s.row k r).rw j = s.rw j:=by simp [St.row,h]
theorem zgh (s:St) (ks:List Nat):(s.freeze ks).sl = s.sl:=(rfl)
theorem zgi (s:St) (ks:List Nat) (k:Nat):(s.freeze ks).rw k = if k ∈ ks then frz (s.rw k) else s.rw k:=(rfl)
theorem znh (ver:Nat) (e sz:Nat) (fz:Bool) (c:List PV):frz ⟨ver,.sli e sz fz c⟩ = ⟨ver,.sli e sz true c⟩:=(rfl)
theorem zsH (s:St) (t:Nat):s.ev (.tmp t) = s.sl t:=(rfl)
theorem zwS (s:St) (f:FuncId):s.ev (.func f) = .clo f []:=(rfl)
theorem zsI (s:St) (k:IntKind) (n:Int):s.ev (.const (.int k n)) = .v (.int k n):=(rfl)
theorem zni (s:St) (b:Bool):s.ev (.const (.bool b)) = .v (.bool b):=(rfl)
theorem zgj (s:St) (b:ByteArray):s.ev (.const (.string b)) = .v (.string b):=(rfl)
theorem zsJ (s:St) (a:Option Addr) (l c:Nat):s.ev (.const (.slice a l c)) = .v (.slice a l c):=(rfl)
theorem zCt (s:St) (cs:List Value):s.ev (.const (.agg ⟨cs⟩)) = .ag (cs.map PV.v):=(rfl)
theorem znj (args:List PV) (i:Nat):(St.init args).sl i = args.getD i .junk:=(rfl)
theorem znk (args:List PV) (i:Nat):(St.init args).rw i = ⟨0,.dead⟩:=(rfl)
theorem zgk {α:Type} (a:α) (l:List α) (d:α):(a :: l).getD 0 d = a:=(rfl)
theorem zgl {α:Type} (a:α) (l:List α) (i:Nat) (d:α):(a :: l).getD (i + 1) d = l.getD i d:=(rfl)
theorem ziI {α:Type} (i:Nat) (d:α):([]:List α).getD i d = d:=(rfl)
theorem ziJ (s:St) (d:Nat) (kd:RK) (p:Nat→PV):zcq s d kd p = (s.row d ⟨(s.rw d).ver + 1,kd⟩).put (some d) (p ((s.rw d).ver + 1)):=(rfl)
theorem ziK (s:St) (d k:Nat) (kd:RK):zcU s d k kd = (s.row k ⟨(s.rw k).ver + 1,kd⟩).put (some d) (.own k ((s.rw k).ver + 1)):=(rfl)
structure Dm {α:Type} (K:α):Type
def kk {α:Type} (K:α) (_:Dm K:=⟨⟩):α:=K
theorem zAY {α β:Type} (K:α→β) (u:Dm K) (x:α):kk K u x = K x:=(rfl)
def evK (p:PV) (K:PV→Prop):Prop:=K p
theorem zFP (v:Value) (K:PV→Prop):evK (.v v) K = K (.v v):=(rfl)
theorem zCu (fr:Bool) (z:Nat) (c:List PV) (K:PV→Prop):evK (.sl fr z c) K = K (.sl fr z c):=(rfl)
theorem zwT (j v:Nat) (K:PV→Prop):evK (.own j v) K = K (.own j v):=(rfl)
theorem zwU (j v o:Nat) (K:PV→Prop):evK (.ref j v o) K = K (.ref j v o):=(rfl)
theorem zsK (fr:Bool) (c:List PV) (o:Nat) (K:PV→Prop):evK (.eref fr c o) K = K (.eref fr c o):=(rfl)
theorem zCv (c:List PV) (K:PV→Prop):evK (.ag c) K = K (.ag c):=(rfl)
theorem zwV (c:List PV) (K:PV→Prop):evK (.tup c) K = K (.tup c):=(rfl)
theorem zwW (f:FuncId) (c:List PV) (K:PV→Prop):evK (.clo f c) K = K (.clo f c):=(rfl)
theorem zsL (K:PV→Prop):evK .junk K = K .junk:=(rfl)
section
variable {P:Program} {T:Tab} {ops:Array Oper} {Q:AX→St→Prop} {s:St}
def zAZ (p:PV) (A B:Prop):Prop:=match p with | .v (.bool b)=>(b = true→A)∧(b = false→B) | _=>False
def c1 (b:Bool) (A B:Prop):Prop:=(b = true→A)∧(b = false→B)
def c2 (b:Bool) (A B:Prop):Prop:=(b = true→A)∧(b = false→B)
def d1 (b:Bool) (A B:Prop):Prop:=(b = false→A)∧(b = true→B)
def d2 (b:Bool) (A B:Prop):Prop:=(b = false→A)∧(b = true→B)
theorem zFQ (A B:Prop):c1 true (kk A) (kk B) = A:=by simp [c1,kk]
theorem zFR (A B:Prop):c1 false (kk A) (kk B) = B:=by simp [c1,kk]
theorem zFS (A B:Prop):c2 true (kk A) (kk B) = A:=by simp [c2,kk]
theorem zFT (A B:Prop):c2 false (kk A) (kk B) = B:=by simp [c2,kk]
theorem zFU (A B:Prop):d1 true (kk A) (kk B) = B:=by simp [d1,kk]
theorem zFV (A B:Prop):d1 false (kk A) (kk B) = A:=by simp [d1,kk]
theorem zFW (A B:Prop):d2 true (kk A) (kk B) = B:=by simp [d2,kk]
theorem zFX (A B:Prop):d2 false (kk A) (kk B) = A:=by simp [d2,kk]
theorem zCw (b:Bool) (A B:Prop):c1 b A B = c2 b A B:=(rfl)
theorem zCx (b:Bool) (A B:Prop):c2 b (kk A) (kk B) = ((b = true→A)∧(b = false→B)):=(rfl)
theorem zCy (b:Bool) (A B:Prop):d1 b A B = d2 b A B:=(rfl)
theorem zCz (b:Bool) (A B:Prop):d2 b (kk A) (kk B) = ((b = false→A)∧(b = true→B)):=(rfl)
theorem zlD (b:Bool) (A B:Prop):zAZ (.v (.bool b)) A B = c1 b A B:=(rfl)
theorem zsM [zae]:cwp P T .skip Q s = Q .norm s:=(rfl)
theorem zhU [zae] (id:Nat):cwp P T (.region id ops false) Q s = zrF P T ops ops.toList s (Q .norm):=(rfl)
theorem zhV [zae] (id:Nat):cwp P T (.region id ops true) Q s = (zj8 ops = true∧zeQ P T ops [] ops.toList s (Q .norm)):=(rfl)
theorem zwX [zae] (x y:Code):cwp P T (.seq x y) Q s = cwp P T x (AX.seq (cwp P T y Q) Q) s:=(rfl)
theorem zsN [zae] (c:Operand) (x y:Code):cwp P T (.cond c x y) Q s = zAZ (s.ev c) (kk (cwp P T x Q s)) (kk (cwp P T y Q s)):=(rfl)
theorem zos [zae] (id:Nat) (x:Code):cwp P T (.block id x) Q s = cwp P T x (AX.blk id Q) s:=(rfl)
theorem zsO [zae] (x:Code):cwp P T (.loop x) Q s = zqc (kk (cwp P T x)) (kk Q) s:=(rfl)
theorem zsP [zae] (id:Nat):cwp P T (.exit id) Q s = Q (.exit id) s:=(rfl)
theorem zwY [zae]:cwp P T .ret Q s = Q .ret s:=(rfl)
theorem zot [zae] (l:Nat):cwp P T (.label l) Q s = Q .norm s:=(rfl)
variable {K:St→Prop}
theorem zsQ:AX.seq K Q .norm s = K s:=(rfl)
theorem zwZ:AX.seq K Q .ret s = Q .ret s:=(rfl)
theorem zsR (id:Nat):AX.seq K Q (.exit id) s = Q (.exit id) s:=(rfl)
theorem zsS (id:Nat):AX.blk id Q .norm s = Q .norm s:=(rfl)
theorem zw0 (id:Nat):AX.blk id Q .ret s = Q .ret s:=(rfl)
theorem zgm (id:Nat):AX.blk id Q (.exit id) s = Q .norm s:=by simp [AX.blk]
theorem zje (id i:Nat) (h:i ≠ id):AX.blk id Q (.exit i) s = Q (.exit i) s:=by simp [AX.blk,h]
theorem zsT (rs:List ResultVar) (rv:RV):zHk T rs rv .ret s = zvv T s rs rv:=(rfl)
theorem zou (rs:List ResultVar) (rv:RV):zHk T rs rv .norm s = zvv T s rs rv:=(rfl)
theorem zsU [zae]:zrF P T ops [] s K = K s:=(rfl)
theorem zjf:∀ (n:Nat) (p:Nat→Bool),(∀ k,k < n→p k = true)→zcE n p = true:=by
 intro n
 induction n with
 | zero=>intro p _;rfl
 | succ n ih=>intro p h;simp only [zcE,Bool.and_eq_true];exact ⟨h n (by omega),ih p fun k hk=>h k (by omega)⟩
def clr (e:Ent):List Ent→Bool | []=>true | e' :: l=>!zmF e' e && clr e l
def zgn:List Ent→Bool | []=>true | e :: l=>clr e l && zgn l
theorem zrq:∀ {l:List Ent},zgn l = true→l.Pairwise fun a b=>zmF b a = false:=by
 intro l
 induction l with
 | nil=>intro _;exact .nil
 | cons e l ih =>
   intro h
   simp only [zgn,Bool.and_eq_true] at h
   refine List.pairwise_cons.2 ⟨?_,ih h.2⟩
   have:∀ l':List Ent,clr e l' = true→∀ b ∈ l',zmF b e = false:=by
    intro l'
    induction l' with
    | nil=>intro _ b hb;cases hb
    | cons x l' ih' =>
      intro h b hb
      simp only [clr,Bool.and_eq_true,Bool.not_eq_true'] at h
      rcases List.mem_cons.1 hb with rfl | hb
      ·exact h.1
      ·exact ih' h.2 b hb
   exact this l h.1
theorem zvp [zae] {l:List Ent} (h:zgn l = true):zlf ops l.reverse = true:=by
 have hp:l.reverse.Pairwise fun a b=>zmF a b = false:=List.pairwise_reverse.2 (zrq h)
 unfold zlf
 refine zjf _ _ fun j hj=>zjf _ _ fun i hi=>?_
 split
 ·rename_i a b ha hb
  obtain ⟨h1,rfl⟩:=List.getElem?_eq_some_iff.1 ha
  obtain ⟨h2,rfl⟩:=List.getElem?_eq_some_iff.1 hb
  have:=List.pairwise_iff_getElem.1 hp i j h1 h2 hi
  rw [this];rfl
 ·rfl
def zw1 (ops:Array Oper) (acc:List Ent) (A:Prop):Prop:=zlf ops acc.reverse = true∧A
def lnK (b:Bool) (ops:Array Oper) (acc:List Ent) (A:Prop):Prop:=match b with | true=>A | false=>zlf ops acc.reverse = true∧A
theorem zov [zae] (acc:List Ent) (A:Prop):zw1 ops acc (kk A) = lnK (zgn acc) ops acc (kk A):=by
 unfold zw1 lnK
 cases h:zgn acc with
 | true=>simp [zvp h,kk]
 | false=>rfl
theorem zFY (acc:List Ent) (A:Prop):lnK true ops acc (kk A) = A:=(rfl)
theorem zFZ (acc:List Ent) (A:Prop):lnK false ops acc (kk A) = (zlf ops acc.reverse = true∧A):=(rfl)
theorem zCA:zgn [] = true:=(rfl)
theorem zw2 (e:Ent) (l:List Ent):zgn (e :: l) = (clr e l && zgn l):=(rfl)
theorem zw3 (e:Ent):clr e [] = true:=(rfl)
theorem zsV (e e':Ent) (l:List Ent):clr e (e' :: l) = (!zmF e' e && clr e l):=(rfl)
def zoh (l:List Nat) (t:Tc):Bool:=l.any t.has
theorem zsW (t:Tc):zoh [] t = false:=(rfl)
theorem zow (k:Nat) (l:List Nat) (t:Tc):zoh (k :: l) t = (t.has k || zoh l t):=(rfl)
theorem zw4 (k:Nat):(Tc.ids []).has k = false:=(rfl)
theorem zsX (a:Nat) (l:List Nat) (k:Nat):(Tc.ids (a :: l)).has k = (a % 1000 == k % 1000 || (Tc.ids l).has k):=(rfl)
theorem zw5 (d k:Nat):(Tc.res d).has k = (k % 1000 == d % 1000):=(rfl)
theorem zCB (a b:List Nat):zmF ⟨a,.ids []⟩ ⟨b,.ids []⟩ = false:=by
 have e:∀ l:List Nat,l.any (Tc.ids []).has = false:=fun l=>by
  rw [List.any_eq_false];intro x _;simp [Tc.has]
 simp [zmF,e,zfL]
theorem zw6 (a b t u:List Nat):zmF ⟨a,.ids t⟩ ⟨b,.ids u⟩ = (zoh a (.ids u) || (zoh b (.ids t) || zoh t (.ids u))):=by simp [zmF,zoh,zfL,Bool.or_assoc]
theorem zw7 (a b t:List Nat) (d:Nat):zmF ⟨a,.ids t⟩ ⟨b,.res d⟩ = (zoh a (.res d) || (zoh b (.ids t) || zoh t (.res d))):=by simp [zmF,zoh,zfL,Bool.or_assoc]
theorem zw8 (a b t:List Nat) (d:Nat):zmF ⟨a,.res d⟩ ⟨b,.ids t⟩ = (zoh a (.ids t) || (zoh b (.res d) || zoh t (.res d))):=by simp [zmF,zoh,zfL,Bool.or_assoc]
theorem zw9 (a b:List Nat) (d d':Nat):zmF ⟨a,.res d⟩ ⟨b,.res d'⟩ = (zoh a (.res d') || (zoh b (.res d) || (d % 1000 == d' % 1000))):=by simp [zmF,zoh,zfL,Bool.or_assoc]
theorem zox [zae] (acc:List Ent):zeQ P T ops acc [] s K = zw1 ops acc (kk (K s)):=(rfl)
def gK (d:Option Nat) (want:Bool) (s:St) (A B:Nat→Prop) (N:Prop):Prop :=
 match d with
 | some d=>(match s.sl d with | .v (.bool b)=>(b = want→A d)∧(b = !want→B d) | .v (.tuple _)=>N | _=>False)
 | none=>False
def gK1 (want:Bool) (p:PV) (A B N:Prop):Prop:=match p with | .v (.bool b)=>(b = want→A)∧(b = !want→B) | .v (.tuple _)=>N | _=>False
theorem zxa (d:Nat) (want:Bool) (A B:Nat→Prop) (N:Prop):gK (some d) want s A B N = gK1 want (s.sl d) (kk (A d)) (kk (B d)) N:=(rfl)
theorem zoy (want:Bool) (A B N:Prop):gK1 want (.v undef) A B (kk N) = N:=(rfl)
theorem zsY (b:Bool) (A B N:Prop):gK1 true (.v (.bool b)) A B N = c1 b A B:=(rfl)
theorem zoz (b:Bool) (A B N:Prop):gK1 false (.v (.bool b)) A B N = d1 b A B:=(rfl)
theorem zoA [zae] {dst:Option Nat} {op:Op} {ty:TypeId} {pos:String} {af:Array Edge} {os:List Oper} :
 zrF P T ops (⟨dst,op,ty,pos,af,none⟩ :: os) s K = zdw P T s ⟨dst,op,ty,pos,af,none⟩ (fun s2=>zrF P T ops os s2 K):=(rfl)
theorem zlE [zae] {dst:Option Nat} {op:Op} {ty:TypeId} {pos:String} {af:Array Edge} {j:Nat} {want:Bool} {os:List Oper} :
 zrF P T ops (⟨dst,op,ty,pos,af,some (j,want)⟩ :: os) s K = gK ((ops[j]?).bind (·.dst)) want s
  (kk fun d=>zdw P T (s.put (some d) (.v (.bool want))) ⟨dst,op,ty,pos,af,some (j,want)⟩ (fun s2=>zrF P T ops os s2 K))
  (kk fun d=>zrF P T ops os ((s.put (some d) (.v (.bool !want))).put dst (.v undef)) K) (kk (zrF P T ops os (s.put dst (.v undef)) K)):=(rfl)
theorem zCC (l:List Oper) (j:Nat):((⟨l⟩:Array Oper)[j]?) = l[j]?:=by simp
theorem getElem?_zero {α:Type} (a:α) (l:List α):(a :: l)[0]? = some a:=(rfl)
theorem getElem?_succ {α:Type} (a:α) (l:List α) (i:Nat):(a :: l)[i + 1]? = l[i]?:=(rfl)
theorem zoB (o:Oper):(some o).bind (·.dst) = o.dst:=(rfl)
theorem zlF [zae] {dst:Option Nat} {op:Op} {ty:TypeId} {pos:String} {af:Array Edge} {os:List Oper} (acc:List Ent) :
 zeQ P T ops acc (⟨dst,op,ty,pos,af,none⟩ :: os) s K = dK P T s ⟨dst,op,ty,pos,af,none⟩ (kk fun e s2=>zeQ P T ops (e :: acc) os s2 K):=(rfl)
theorem zjg [zae] {dst:Option Nat} {op:Op} {ty:TypeId} {pos:String} {af:Array Edge} {j:Nat} {want:Bool} {os:List Oper} (acc:List Ent) :
 zeQ P T ops acc (⟨dst,op,ty,pos,af,some (j,want)⟩ :: os) s K = gK ((ops[j]?).bind (·.dst)) want s
  (kk fun d=>dK P T (s.put (some d) (.v (.bool want))) ⟨dst,op,ty,pos,af,some (j,want)⟩ (kk fun e s2=>zeQ P T ops (e :: acc) os s2 K))
  (kk fun d=>zeQ P T ops (⟨[],.ids []⟩ :: acc) os ((s.put (some d) (.v (.bool !want))).put dst (.v undef)) K) (kk (zeQ P T ops (⟨[],.ids []⟩ :: acc) os (s.put dst (.v undef)) K)):=(rfl)
def zcS (l:List PV) (acc:List Nat) (Kn:List Nat→Prop):Prop:=Kn (acc ++ l.flatMap zdZ)
def zoi (l:List PV) (acc:List Nat) (Kn:List Nat→Prop):Prop:=Kn (acc ++ l.flatMap zDh)
section
variable (l:List PV) (acc:List Nat) (Kn:List Nat→Prop)
theorem zsZ:zcS [] acc (kk Kn) = Kn acc:=by simp [zcS,kk]
theorem zCD (x:Value):zcS (.v x :: l) acc (kk Kn) = zcS l acc (kk Kn):=(rfl)
theorem zxb (fr:Bool) (z:Nat) (c:List PV):zcS (.sl fr z c :: l) acc (kk Kn) = zcS l acc (kk Kn):=(rfl)
theorem zoC (fr:Bool) (c:List PV) (o:Nat):zcS (.eref fr c o :: l) acc (kk Kn) = zcS l acc (kk Kn):=(rfl)
theorem zs0 (f:FuncId) (c:List PV):zcS (.clo f c :: l) acc (kk Kn) = zcS l acc (kk Kn):=(rfl)
theorem zs1 (c:List PV):zcS (.tup c :: l) acc (kk Kn) = zcS l acc (kk Kn):=(rfl)
theorem zoD:zcS (.junk :: l) acc (kk Kn) = zcS l acc (kk Kn):=(rfl)
theorem zs2 (k v:Nat):zcS (.own k v :: l) acc (kk Kn) = zcS l (acc ++ [k % 1000]) (kk Kn):=by simp [zcS,kk,zdZ,List.flatMap_cons]
theorem zs3 (k v o:Nat):zcS (.ref k v o :: l) acc (kk Kn) = zcS l (acc ++ [k % 1000]) (kk Kn):=by simp [zcS,kk,zdZ,List.flatMap_cons]
theorem zxc (c:List PV):zcS (.ag c :: l) acc (kk Kn) = zoi c acc (kk fun acc'=>zcS l acc' (kk Kn)):=by simp [zcS,zoi,kk,zdZ,List.flatMap_cons]
theorem zs4:zoi [] acc (kk Kn) = Kn acc:=by simp [zoi,kk]
theorem zCE (x:Value):zoi (.v x :: l) acc (kk Kn) = zoi l acc (kk Kn):=(rfl)
theorem zxd (fr:Bool) (z:Nat) (c:List PV):zoi (.sl fr z c :: l) acc (kk Kn) = zoi l acc (kk Kn):=(rfl)
theorem zoE (fr:Bool) (c:List PV) (o:Nat):zoi (.eref fr c o :: l) acc (kk Kn) = zoi l acc (kk Kn):=(rfl)
theorem zs5 (f:FuncId) (c:List PV):zoi (.clo f c :: l) acc (kk Kn) = zoi l acc (kk Kn):=(rfl)
theorem zs6 (k v:Nat):zoi (.own k v :: l) acc (kk Kn) = zoi l (acc ++ [k % 1000]) (kk Kn):=by simp [zoi,kk,zDh,List.flatMap_cons]
theorem zs7 (k v o:Nat):zoi (.ref k v o :: l) acc (kk Kn) = zoi l (acc ++ [k % 1000]) (kk Kn):=by simp [zoi,kk,zDh,List.flatMap_cons]
end
def zeA (rw:Nat→Row) (n:Nat) (l:List PV) (acc:List Nat) (Kn:List Nat→Prop):Prop:=Kn (acc ++ l.flatMap (zdL rw n))
def zjh (r:Row) (rw:Nat→Row) (n:Nat) (acc:List Nat) (Kn:List Nat→Prop):Prop:=Kn (acc ++ (match r.kind with | .box _ c=>c.flatMap (zdL rw n) | _=>[]))
def zji (r:Row) (k:Nat) (acc:List Nat) (Kn:List Nat→Prop):Prop:=Kn (acc ++ (match r.kind with | .tab _ c=>zrz k c | _=>[]))
section
variable (rw:Nat→Row) (n:Nat) (l:List PV) (acc:List Nat) (Kn:List Nat→Prop)
theorem zs8:zeA rw n [] acc (kk Kn) = Kn acc:=by simp [zeA,kk]
theorem zoF:zeA rw 0 l acc (kk Kn) = Kn acc:=by
 have:l.flatMap (zdL rw 0) = []:=by simp [zdL]
 unfold zeA kk
 rw [this,List.append_nil]
theorem zCF (x:Value):zeA rw (n + 1) (.v x :: l) acc (kk Kn) = zeA rw (n + 1) l acc (kk Kn):=by simp [zeA,zdL,List.flatMap_cons]
theorem zxe (fr:Bool) (z:Nat) (c:List PV):zeA rw (n + 1) (.sl fr z c :: l) acc (kk Kn) = zeA rw (n + 1) l acc (kk Kn):=by simp [zeA,zdL,List.flatMap_cons]
theorem zoG (fr:Bool) (c:List PV) (o:Nat):zeA rw (n + 1) (.eref fr c o :: l) acc (kk Kn) = zeA rw (n + 1) l acc (kk Kn):=by simp [zeA,zdL,List.flatMap_cons]
theorem zoH:zeA rw (n + 1) (.junk :: l) acc (kk Kn) = zeA rw (n + 1) l acc (kk Kn):=by simp [zeA,zdL,List.flatMap_cons]
theorem zs9 (k v:Nat):zeA rw (n + 1) (.own k v :: l) acc (kk Kn) = zji (rw k) k (acc ++ [k % 1000]) (kk fun acc'=>zeA rw (n + 1) l acc' (kk Kn)):=by
 simp only [zeA,zji,kk,List.flatMap_cons]
 rw [zdL]
 cases (rw k).kind <;> simp
theorem zlG (k ver e z:Nat) (fz:Bool) (c:List PV):zji ⟨ver,.sli e z fz c⟩ k acc (kk Kn) = Kn acc:=by simp [zji,kk]
theorem zlH (k ver:Nat):zji ⟨ver,.nil⟩ k acc (kk Kn) = Kn acc:=by simp [zji,kk]
theorem zlI (k ver e:Nat) (c:List PV):zji ⟨ver,.tab e c⟩ k acc (kk Kn) = Kn (acc ++ zrz k c):=(rfl)
theorem zjj [zae] (k:Nat) (p:List Nat):zrz k (zaD k p) = []:=by
 unfold zrz zaD
 rw [List.flatMap_eq_nil_iff]
 intro q hq
 obtain ⟨j,_,rfl⟩:=List.mem_map.1 hq
 simp [zcO]
theorem zoI (rw':Nat→Row) (k m:Nat):zrz k (zaO rw' k 0 m) = []:=by
 unfold zrz zaO
 rw [List.flatMap_eq_nil_iff]
 intro q hq
 obtain ⟨j,_,rfl⟩:=List.mem_map.1 hq
 simp [zaj]
theorem zxf (c:List PV):zeA rw (n + 1) (.ag c :: l) acc (kk Kn) = zeA rw n c acc (kk fun acc'=>zeA rw (n + 1) l acc' (kk Kn)):=by simp [zeA,zdL,List.flatMap_cons,kk]
theorem zta (f:FuncId) (c:List PV):zeA rw (n + 1) (.clo f c :: l) acc (kk Kn) = zeA rw n c acc (kk fun acc'=>zeA rw (n + 1) l acc' (kk Kn)):=by simp [zeA,zdL,List.flatMap_cons,kk]
theorem ztb (k v o:Nat):zeA rw (n + 1) (.ref k v o :: l) acc (kk Kn) = zjh (rw k) rw n (acc ++ [k % 1000]) (kk fun acc'=>zeA rw (n + 1) l acc' (kk Kn)):=by
 simp only [zeA,zjh,kk,List.flatMap_cons]
 rw [zdL]
 cases (rw k).kind <;> simp
theorem zlJ (ver:Nat) (t:TypeId) (c:List PV):zjh ⟨ver,.box t c⟩ rw n acc (kk Kn) = zeA rw n c acc (kk Kn):=(rfl)
theorem zlK (ver e z:Nat) (fz:Bool) (c:List PV):zjh ⟨ver,.sli e z fz c⟩ rw n acc (kk Kn) = Kn acc:=by simp [zjh,kk]
theorem zlL (ver:Nat):zjh ⟨ver,.nil⟩ rw n acc (kk Kn) = Kn acc:=by simp [zjh,kk]
end
section
variable {dst:Option Nat} {ty:TypeId} {pos:String} {af:Array Edge} {g:Option (Nat × Bool)}
theorem ztc [zae] (x:Operand):opK P T s ⟨dst,.move x,ty,pos,af,g⟩ K = evK (s.ev x) (kk fun p=>K (s.put dst p)):=(rfl)
theorem zfD [zae] (t:Nat):opK P T s ⟨dst,.assign (.tmp t),ty,pos,af,g⟩ K = evK (s.sl t) (kk fun p=>K (s.put dst p)):=(rfl)
theorem zfE [zae] (k:IntKind) (n:Int):opK P T s ⟨dst,.assign (.const (.int k n)),ty,pos,af,g⟩ K = K (s.put dst (.v (.int k n))):=(rfl)
theorem zeJ [zae] (b:Bool):opK P T s ⟨dst,.assign (.const (.bool b)),ty,pos,af,g⟩ K = K (s.put dst (.v (.bool b))):=(rfl)
theorem zdF [zae] (b:ByteArray):opK P T s ⟨dst,.assign (.const (.string b)),ty,pos,af,g⟩ K = K (s.put dst (.v (.string b))):=(rfl)
theorem zfF [zae] (cs:List Value):opK P T s ⟨dst,.assign (.const (.agg ⟨cs⟩)),ty,pos,af,g⟩ K = K (s.put dst (.ag (cs.map PV.v))):=(rfl)
def nilRow (T:Tab) (k:TK):RK:=match k with | .sli e=>.sli e (T e).size false [] | _=>.nil
theorem zlM (e:TypeId):nilRow T (.sli e) = .sli e (T e).size false []:=(rfl)
theorem zfG [zae] (d:Nat):opK P T s ⟨some d,.assign (.const (.slice none 0 0)),ty,pos,af,g⟩ K = K (zcq s d (nilRow T (T ty).k) fun v=>.own d v):=(rfl)
theorem ztd [zae] (c x y:Operand):opK P T s ⟨dst,.pick c x y,ty,pos,af,g⟩ K = zAZ (s.ev c) (kk (evK (s.ev x) (kk fun p=>K (s.put dst p)))) (kk (evK (s.ev y) (kk fun p=>K (s.put dst p)))):=(rfl)
theorem zxg [zae] (op:BinOp) (t t2:TypeId) (x y:Operand):opK P T s ⟨dst,.binOp op t x y t2,ty,pos,af,g⟩ K = zcN T op t (s.ev x) (s.ev y) (kk fun p=>K (s.put dst p)):=(rfl)
theorem zCG [zae] (op:UnOp) (t:TypeId) (x:Operand):opK P T s ⟨dst,.unOp op t x,ty,pos,af,g⟩ K = unK op (s.ev x) (kk fun p=>K (s.put dst p)):=(rfl)
theorem zjk [zae] (a b:TypeId) (x:Operand):opK P T s ⟨dst,.convert a b x,ty,pos,af,g⟩ K = zfz T s.rw a b (s.ev x) (kk fun p=>K (s.put dst p)):=(rfl)
theorem zte [zae] (t:TypeId) (x:Operand):opK P T s ⟨dst,.load t x,ty,pos,af,g⟩ K = zrk s.rw (s.ev x) (kk fun m c off=>ldK T t m c off (kk fun p=>K (s.put dst p))):=(rfl)
theorem zgo [zae] (t:TypeId) (x:Operand) (f:Nat):opK P T s ⟨dst,.fieldAddr t x f,ty,pos,af,g⟩ K =
 zdp T t f (kk fun o _=>zkm (s.ev x) = true∧zda s.rw (s.ev x) (kk (evK (zdP (s.ev x) o) (kk fun p=>K (s.put dst p))))):=(rfl)
def agK (p:PV) (K:List PV→Prop):Prop:=match p with | .ag c=>K c | _=>False
theorem zCH (c:List PV) (Kc:List PV→Prop):agK (.ag c) Kc = Kc c:=(rfl)
def zHz (p:PV) (K:List PV→Prop):Prop:=match p with | .tup c=>K c | _=>False
theorem ztf (c:List PV) (Kc:List PV→Prop):zHz (.tup c) Kc = Kc c:=(rfl)
theorem zjl [zae] (t:TypeId) (x:Operand) (f:Nat):opK P T s ⟨dst,.field t x f,ty,pos,af,g⟩ K =
 agK (s.ev x) (kk fun c=>zdp T t f (kk fun o ft=>ldK T ft .asis c o (kk fun p=>K (s.put dst p)))):=by
 show zdp T t f (fun o ft=>(match s.ev x with | .ag c=>ldK T ft .asis c o fun p=>K (s.put dst p) | _=>False)) = _
 unfold zdp agK kk
 cases s.ev x
 case ag c=>rfl
 all_goals
  refine propext ⟨fun h=>?_,fun h=>h.elim⟩
  obtain ⟨_,h⟩:=h
  split at h
  ·split at h
   ·exact h.2.elim
   ·exact h.elim
  ·exact h.elim
theorem zlN [zae] (t:TypeId) (x i:Operand):opK P T s ⟨dst,.lookup t x i false,ty,pos,af,g⟩ K = zit T s.rw t (s.ev x) (s.ev i) (kk fun p=>K (s.put dst p)):=by
 show (false = false∧zit T s.rw t (s.ev x) (s.ev i) (fun p=>K (s.put dst p))) = _
 simp [kk]
theorem zjm [zae] (d:Nat) (t:TypeId):opK P T s ⟨some d,.makeMap t none,ty,pos,af,g⟩ K = K (zcq s d (.mp fun _=>0) fun v=>.own d v):=(rfl)
theorem zgp [zae] (t:TypeId) (m x y:Operand):opK P T s ⟨none,.mapUpdate t m x y,ty,pos,af,g⟩ K = zFk T s t (s.ev m) (s.ev x) (s.ev y) (kk K):=by
 show ((none:Option Nat) = none∧zFk T s t (s.ev m) (s.ev x) (s.ev y) K) = _
 simp [kk]
theorem zgq [zae] (t:TypeId) (x i:Operand):opK P T s ⟨dst,.indexAddr t x i,ty,pos,af,g⟩ K = zbg T s.rw t (s.ev x) (s.ev i) (kk fun p=>K (s.put dst p)):=(rfl)
def ztg (T:Tab) (t:TypeId) (x i:PV) (K:PV→Prop):Prop:=0 < (T t).size∧(match (T t).k,x,i with
 | .str,.v (.string s),.v (.int _ n)=>0 ≤ n∧n.toNat < s.size∧K (.v (.int .u8 ((s.data.toList.getD n.toNat 0).toNat:Int)))
 | .arr len e,.ag c,.v (.int _ n)=>0 ≤ n∧n < len∧ldK T e .asis c (n.toNat * (T e).size) K
 | _,_,_=>False)
theorem zoJ [zae] (t:TypeId) (x i:Operand):opK P T s ⟨dst,.index t x i,ty,pos,af,g⟩ K = ztg T t (s.ev x) (s.ev i) (kk fun p=>K (s.put dst p)):=(rfl)
theorem zjn [zae] (x:Operand) (i:Nat):opK P T s ⟨dst,.extract x i,ty,pos,af,g⟩ K = zHz (s.ev x) (kk fun ps=>i < ps.length∧evK (ps.getD i .junk) (kk fun p=>K (s.put dst p))):=(rfl)
theorem zhW [zae] (x:Operand):opK P T s ⟨dst,.nilCheck x,ty,pos,af,g⟩ K = zda s.rw (s.ev x) (kk (evK (s.ev x) (kk fun p=>K (s.put dst p)))):=(rfl)
theorem zhX [zae] (f:FuncId) (caps:Array Operand):opK P T s ⟨dst,.makeFunc (.func f) #[] caps,ty,pos,af,g⟩ K = K (s.put dst (.clo f (caps.toList.map s.ev))):=by
 show (#[] = (#[]:Array Operand)∧K (s.put dst (.clo f (caps.toList.map s.ev)))) = _
 simp
theorem zxh [zae] (x:Operand) (t:TypeId):opK P T s ⟨dst,.call ⟨.builtin .len,#[x],#[t]⟩,ty,pos,af,g⟩ K = zze T s.rw t (s.ev x) (kk fun p=>K (s.put dst p)):=(rfl)
theorem zxi [zae] (x y:Operand) (ts:Array TypeId):opK P T s ⟨dst,.call ⟨.builtin .max,#[x,y],ts⟩,ty,pos,af,g⟩ K = zcu true (s.ev x) (s.ev y) (kk fun p=>K (s.put dst p)):=(rfl)
theorem zxj [zae] (x y:Operand) (ts:Array TypeId):opK P T s ⟨dst,.call ⟨.builtin .min,#[x,y],ts⟩,ty,pos,af,g⟩ K = zcu false (s.ev x) (s.ev y) (kk fun p=>K (s.put dst p)):=(rfl)
theorem zlO [zae] (d:Nat) (x y:Operand) (t t2:TypeId):opK P T s ⟨some d,.call ⟨.builtin .append,#[x,y],#[t,t2]⟩,ty,pos,af,g⟩ K = zkf T s d t t2 (s.ev x) (s.ev y) (kk K):=(rfl)
def zAM (p:PV) (K:FuncId→List PV→Prop):Prop:=match p with | .clo g caps=>K g caps | _=>False
theorem zth (g:FuncId) (c:List PV) (Kc:FuncId→List PV→Prop):zAM (.clo g c) Kc = Kc g c:=(rfl)
def zhY [zae] (P:Program) (f:FuncId) (args:List PV) (K:RV→Prop) (M:Prop):Prop:=(∃ rv,AC P f args rv∧K rv) ∨ M
theorem zab [zae] {f:FuncId} {args:List PV} {Kr:RV→Prop} {u:Dm Kr} {rv:RV} {M:Prop} (h:AC P f args rv) (hk:Kr rv):zhY P f args (kk Kr u) M:=.inl ⟨rv,h,hk⟩
def zrr [zae] (P:Program) (f:FuncId) (args raw:List PV) (dst:Option Nat) (s:St) (K:St→Prop):Prop:=zJI P s f raw dst K ∨ zHo P s f raw dst K ∨ zD4 P s f args dst K ∨ askG P s f raw dst K
theorem zjo [zae] {f:FuncId} {args raw lent:List PV} {ins:List LR} {outs:List (List PV)} {x:Value} {Ka:RV→Prop} {dst:Option Nat} {us:Dm s} {u:Dm K} (h:AM P f args ins outs x) (js:List (Nat × Nat))
 (hg:GiveL js raw args) (hh:znH s.rw js ins) (hn:(js.map (·.1)).Nodup) (hk:K ((s.wrote js ins outs).put dst (.v x))):zhY P f lent Ka (zrr P f lent raw dst (kk s us) (kk K u)):=.inr (.inl ⟨js,ins,args,outs,x,h,hg,hh,hn,hk⟩)
theorem zDK [zae] {f:FuncId} {args raw lent:List PV} {k v e e2:Nat} {p:List Nat} {rows rows':List (List PV)} {res:TR} {Ka:RV→Prop} {dst:Option Nat} {us:Dm s} {u:Dm K} (h:AT P f args e e2 rows rows' res)
 (hg:GiveL [(k,v)] raw args) (ht:TabIs s.rw k v e e2 p rows) (hn:p.Nodup)
 (hk:∀ p':List Nat,p'.Perm p→res.next (s.tabbed k v e e2 p' rows') k v dst K):zhY P f lent Ka (zrr P f lent raw dst (kk s us) (kk K u)) :=
 .inr (.inr (.inl ⟨k,v,e,e2,p,rows,rows',args,res,h,hg,ht,hn,hk⟩))
theorem zA0 [zae] {f:FuncId} {args raw:List PV} {Ka:RV→Prop} {d:Nat} {us:Dm s} {u:Dm K} {rv:RV} (s':St) (h:AC P f args rv) (hw:Wk (zak s d rv) s') (hk:K s'):zhY P f args Ka (zrr P f args raw (some d) (kk s us) (kk K u)) :=
 .inr (.inr (.inr (.inl ⟨rv,s',h,hw,hk⟩)))
theorem zxk [zae] {f:FuncId} {args raw lent:List PV} {R0:Nat→Row} {post:(Nat→Row)→PV→Prop} {Ka:RV→Prop} {dst:Option Nat} {us:Dm s} {u:Dm K} (h:AG P f args R0 post) (rho:Nat→Option Nat) (Ln:Nat→Prop) (hl:GvL rho Ln R0 s.rw args raw) (hg:Give rho Ln R0 s.rw)
 (hk:∀ R1 p,post R1 p→∃ (rho1:Nat→Option Nat) (nv:Nat→Nat) (nl:Bool),Back rho rho1 R1 nv nl Ln R0 s.rw∧∀ S:St,After s S dst rho1 nv nl R1 p→K S):zhY P f lent Ka (zrr P f lent raw dst (kk s us) (kk K u)) :=
 .inr (.inr (.inr (.inr ⟨args,R0,post,rho,Ln,h,hl,hg,hk⟩)))
def zhl (s:St) (l:List Operand):List PV:=l.map fun x=>zck s.rw zfy (s.ev x)
theorem zoK:zhl s [] = []:=(rfl)
theorem zlP (x:Operand) (l:List Operand):zhl s (x :: l) = zck s.rw 3 (s.ev x) :: zhl s l:=(rfl)
def zxl (s:St) (l:List Operand):List PV:=l.map s.ev
theorem zti:zxl s [] = []:=(rfl)
theorem zoL (x:Operand) (l:List Operand):zxl s (x :: l) = s.ev x :: zxl s l:=(rfl)
theorem zA1 [zae] (f:Operand) (args:List Operand) (Kr:RV→Prop):zd4 P s.rw s.ev f ⟨args⟩ Kr = zAM (s.ev f) (kk fun g caps=>zhY P g (zhl s args ++ caps.map (zck s.rw 3)) (kk Kr) False):=by
 unfold zd4 zAM zhY
 cases s.ev f <;> first | rfl | simp [kk,zhl,zfy]
theorem ztj [zae] (f:Operand) (args:List Operand) (Kr:RV→Prop) (dst:Option Nat):((zd4 P s.rw s.ev f ⟨args⟩ Kr ∨ zyX P s f ⟨args⟩ dst K) ∨ (match s.ev f with
 | .clo g caps=>zHo P s g (args.map s.ev ++ caps) dst K ∨ zD4 P s g ((args.map fun x=>zck s.rw zfy (s.ev x)) ++ caps.map (zck s.rw zfy)) dst K ∨ askG P s g (args.map s.ev ++ caps) dst K
 | _=>False)) =
 zAM (s.ev f) (kk fun g caps=>zhY P g (zhl s args ++ caps.map (zck s.rw 3)) (kk Kr) (zrr P g (zhl s args ++ caps.map (zck s.rw 3)) (zxl s args ++ caps) dst (kk s) (kk K))):=by
 unfold zd4 zyX zAM
 cases s.ev f <;> first | (simp;done) | skip
 unfold kk zhY zrr
 exact propext or_assoc
theorem zoM [zae] (d:Nat) (f:Operand) (args:List Operand) (ts:Array TypeId):zdw P T s ⟨some d,.call ⟨.value f,⟨args⟩,ts⟩,ty,pos,af,g⟩ K =
 zAM (s.ev f) (kk fun g caps=>zhY P g (zhl s args ++ caps.map (zck s.rw 3)) (kk fun rv=>K (zak s d rv)) (zrr P g (zhl s args ++ caps.map (zck s.rw 3)) (zxl s args ++ caps) (some d) (kk s) (kk K))):=ztj (P:=P) f args _ _
theorem zfH [zae] (f:Operand) (args:List Operand) (ts:Array TypeId):zdw P T s ⟨none,.call ⟨.value f,⟨args⟩,ts⟩,ty,pos,af,g⟩ K =
 zAM (s.ev f) (kk fun g caps=>zhY P g (zhl s args ++ caps.map (zck s.rw 3)) (kk fun _=>K s) (zrr P g (zhl s args ++ caps.map (zck s.rw 3)) (zxl s args ++ caps) none (kk s) (kk K))):=ztj (P:=P) f args _ _
theorem zoN [zae] (b:Builtin) (args:Array Operand) (ts:Array TypeId) (h:(match b with | .append=>false | _=>true) = true):zdw P T s ⟨dst,.call ⟨.builtin b,args,ts⟩,ty,pos,af,g⟩ K = opK P T s ⟨dst,.call ⟨.builtin b,args,ts⟩,ty,pos,af,g⟩ K:=by
 cases b <;> first | rfl | cases h
theorem zoO [zae] (d:Nat) (t:TypeId):opK P T s ⟨some d,.alloc t,ty,pos,af,g⟩ K = (0 < (T t).size∧K (zcq s d (.box t ((T t).zero.map PV.v)) fun v=>.ref d v 0)):=(rfl)
theorem zxm [zae] (d:Nat) (t:TypeId) (x:Operand):opK P T s ⟨some d,.box t x,ty,pos,af,g⟩ K = zaT s.rw (s.ev x) (kk fun c=>K (zcq s d (.box t c) fun v=>.ref d v 0)):=(rfl)
def evs (s:St) (l:List (Nat × Operand)):List PV:=l.map fun x=>s.ev x.2
theorem zxn:evs s [] = []:=(rfl)
theorem ztk (n:Nat) (x:Operand) (l:List (Nat × Operand)):evs s ((n,x) :: l) = s.ev x :: evs s l:=(rfl)
def zxo (T:Tab) (s:St) (d:Nat) (kd:TK) (z n:Nat) (parts:List (Nat × Operand)) (K:St→Prop):Prop :=
 0 < z∧match kd with
 | .sli e=>0 < (T e).size∧n = parts.length∧znI 0 parts = true∧n * (T e).size ≤ 16777216 ∧
  zlh s.rw (T e).size (evs s parts) fun c f=>d ∉ f∧K (((s.freeze f).row d ⟨(s.rw d).ver + 1,.sli e (T e).size false c⟩).put (some d) (.own d ((s.rw d).ver + 1)))
 | _=>False
theorem zfI [zae] (d:Nat) (t:TypeId) (n:Nat) (parts:List (Nat × Operand)):opK P T s ⟨some d,.buildSlice t n ⟨parts⟩,ty,pos,af,g⟩ K = zxo T s d (T t).k (T t).size n parts (kk K):=(rfl)
def lit (c:List PV):List PV:=c
def zF0 (a:List Int) (c:List PV):List PV:=iL a ++ c
def zF1 (a:List ByteArray) (c:List PV):List PV:=sL a ++ c
def zF2 (a:List Bool) (c:List PV):List PV:=bL a ++ c
def zF3 (a:List (List Int)) (c:List PV):List PV:=iLL a ++ c
theorem znl:lit [] = []:=(rfl)
theorem znm (n:Int) (l:List PV):lit (.v (.int .i64 n) :: l) = zF0 [n] l:=(rfl)
theorem znn (n:ByteArray) (l:List PV):lit (.v (.string n) :: l) = zF1 [n] l:=(rfl)
theorem ziL (n:Bool) (l:List PV):lit (.v (.bool n) :: l) = zF2 [n] l:=(rfl)
theorem ztl (n:List Int) (l:List PV):lit (.sl false 1 (iL n) :: l) = zF3 [n] l:=(rfl)
theorem ziM (a:List Int):zF0 a [] = iL a:=List.append_nil _
theorem ziN (a:List ByteArray):zF1 a [] = sL a:=List.append_nil _
theorem ziO (a:List Bool):zF2 a [] = bL a:=List.append_nil _
theorem ziP (a:List (List Int)):zF3 a [] = iLL a:=List.append_nil _
theorem zgr (a:List Int) (n:Int) (l:List PV):zF0 a (.v (.int .i64 n) :: l) = zF0 (a ++ [n]) l:=by simp [zF0,iL]
theorem zgs (a:List ByteArray) (n:ByteArray) (l:List PV):zF1 a (.v (.string n) :: l) = zF1 (a ++ [n]) l:=by simp [zF1,sL]
theorem zgt (a:List Bool) (n:Bool) (l:List PV):zF2 a (.v (.bool n) :: l) = zF2 (a ++ [n]) l:=by simp [zF2,bL]
theorem zgu (a:List (List Int)) (n:List Int) (l:List PV):zF3 a (.sl false 1 (iL n) :: l) = zF3 (a ++ [n]) l:=by simp [zF3,iLL]
theorem zlQ (d e n:Nat) (parts:List (Nat × Operand)) (h2:(T e).size = 1) :
 zxo T s d (.sli e) 1 n parts K = (n = parts.length∧znI 0 parts = true∧n ≤ 16777216∧zlh s.rw 1 (evs s parts) (kk fun c f=>d ∉ f∧K (((s.freeze f).row d ⟨(s.rw d).ver + 1,.sli e 1 false (lit c)⟩).put (some d) (.own d ((s.rw d).ver + 1))))):=by
 unfold zxo kk
 simp only [h2,Nat.one_pos,true_and,Nat.mul_one]
 rfl
theorem zoP (i:Nat):znI i [] = true:=(rfl)
theorem zlR (i j:Nat) (x:Operand) (l:List (Nat × Operand)):znI i ((j,x) :: l) = (j == i && znI (i + 1) l):=(rfl)
theorem zoQ (rw:Nat→Row) (es:Nat) (Kp:List PV→List Nat→Prop):zlh rw es [] (kk Kp) = Kp [] []:=(rfl)
theorem zlS (rw:Nat→Row) (es:Nat) (p:PV) (ps:List PV) (Kp:List PV→List Nat→Prop):zlh rw es (p :: ps) (kk Kp) = zcJ rw p (kk fun c f=>c.length = es∧zlh rw es ps (kk fun cs fs=>Kp (c ++ cs) (f ++ fs))):=(rfl)
theorem zoR [zae] (t:TypeId) (ad x:Operand):opK P T s ⟨none,.store t ad x,ty,pos,af,g⟩ K = zqs T s t (s.ev ad) (s.ev x) (kk K):=by
 show ((none:Option Nat) = none∧zqs T s t (s.ev ad) (s.ev x) K) = _
 simp [kk]
def zDL (T:Tab) (t:TypeId) (l c:PV) (K:TypeId→List PV→Prop):Prop :=
 match (T t).k,l,c with
 | .sli e,.v (.int _ nl),.v (.int _ nc)=>0 < (T t).size∧(T e).size = 1∧(match (T e).zero with
  | [z]=>0 ≤ nl∧nl ≤ nc∧((T e).bytes:Int) * nc ≤ 281474976710656∧nc ≤ 9223372036854775807∧K e (List.replicate nl.toNat (.v z))
  | _=>False)
 | _,_,_=>False
theorem ztm [zae] (d:Nat) (t:TypeId) (l c:Operand):opK P T s ⟨some d,.makeSlice t l c,ty,pos,af,g⟩ K = zDL T t (s.ev l) (s.ev c) (kk fun e cs=>K (zcq s d (.sli e 1 false cs) fun v=>.own d v)):=by
 unfold zDL kk
 simp only [opK]
 generalize (T t).k = a
 generalize s.ev l = b
 generalize s.ev c = e
 cases a <;> first | rfl | skip
 cases b <;> first | rfl | skip
 rename_i v
 cases v <;> first | rfl | skip
 cases e <;> first | rfl | skip
 rename_i v
 cases v <;> rfl
def zDM (T:Tab) (kd:TK) (z:Nat) (l c:PV) (K:TypeId→List PV→Prop):Prop :=
 match kd,l,c with
 | .sli e,.v (.int _ nl),.v (.int _ nc)=>0 < z∧(T e).size = 1∧(match (T e).zero with
  | [z]=>0 ≤ nl∧nl ≤ nc∧((T e).bytes:Int) * nc ≤ 281474976710656∧nc ≤ 9223372036854775807∧K e (List.replicate nl.toNat (.v z))
  | _=>False)
 | _,_,_=>False
theorem zxp (t:TypeId) (l c:PV) (Kc:TypeId→List PV→Prop):zDL T t l c Kc = zDM T (T t).k (T t).size l c Kc:=(rfl)
def zDN (zs:List Value) (K:Value→Prop):Prop:=match zs with | [z]=>K z | _=>False
theorem zoS (z:Value) (Kz:Value→Prop):zDN [z] Kz = Kz z:=(rfl)
theorem zoT {e:TypeId} {k1 k2:IntKind} {nl nc:Int} {Kc:TypeId→List PV→Prop} (h2:(T e).size = 1) :
 zDM T (.sli e) 1 (.v (.int k1 nl)) (.v (.int k2 nc)) Kc = zDN (T e).zero (kk fun z=>0 ≤ nl∧nl ≤ nc∧((T e).bytes:Int) * nc ≤ 281474976710656∧nc ≤ 9223372036854775807∧Kc e (List.replicate nl.toNat (.v z))):=by
 unfold zDM zDN kk
 simp only [h2,Nat.one_pos,true_and]
def zFg (T:Tab) (s:St) (t:TypeId) (x:PV) (lo hi mx:Option Operand) (K:List Nat→PV→Prop):Prop :=
 match x with
 | .own k ver=>(match (s.rw k).kind with
  | .sli _ _ false _=>zbr T (s.freeze [k]).rw s.ev t (.own k ver) lo hi mx (K [k])
  | _=>zbr T s.rw s.ev t (.own k ver) lo hi mx (K []))
 | x=>zbr T s.rw s.ev t x lo hi mx (K [])
theorem zoU [zae] (t:TypeId) (x:Operand) (lo hi mx:Option Operand):opK P T s ⟨dst,.slice t x lo hi mx,ty,pos,af,g⟩ K = zFg T s t (s.ev x) lo hi mx (kk fun fz p=>K ((s.freeze fz).put dst p)):=by
 have e:s.freeze [] = s:=St.freeze_nil s
 have h:∀ q,s.ev x = q→(match q with
  | .own k _=>(match (s.rw k).kind with
   | .sli _ _ false _=>ziu T (s.freeze [k]).rw s.ev (.slice t x lo hi mx) fun p=>K ((s.freeze [k]).put dst p)
   | _=>ziu T s.rw s.ev (.slice t x lo hi mx) fun p=>K (s.put dst p))
  | _=>ziu T s.rw s.ev (.slice t x lo hi mx) fun p=>K (s.put dst p)) = zFg T s t q lo hi mx fun fz p=>K ((s.freeze fz).put dst p):=by
  intro q hq
  unfold zFg
  cases q <;> simp only [ziu,hq,e]
 exact h _ rfl
end
def zFh (s:St) (l:List (Nat × Operand)):List (Nat × PV):=l.map fun x=>(x.1,s.ev x.2)
theorem ztn:zFh s [] = []:=(rfl)
theorem zoV (n:Nat) (x:Operand) (l:List (Nat × Operand)):zFh s ((n,x) :: l) = (n,s.ev x) :: zFh s l:=(rfl)
def zgv (T:Tab):List (Nat × TypeId)→Prop | []=>True | x :: fs=>0 < (T x.2).size∧zgv T fs
theorem zlT:zgv T [] = True:=(rfl)
theorem zjp (o:Nat) (t:TypeId) (fs:List (Nat × TypeId)):zgv T ((o,t) :: fs) = (0 < (T t).size∧zgv T fs):=(rfl)
theorem zxq:∀ fs:List (Nat × TypeId),(∀ x ∈ fs,0 < (T x.2).size) = zgv T fs:=by
 intro fs
 induction fs with
 | nil=>simp [zgv]
 | cons x fs ih=>rw [zgv,← ih];simp
def zF4 (T:Tab) (rw:Nat→Row) (kd:TK) (z:Nat) (zs:List Value) (pp:List (Nat × PV)) (K:PV→Prop):Prop :=
 0 < z∧match kd with
 | .struct fs=>zgv T fs∧zcT T rw fs pp (zs.map PV.v) fun c=>K (.ag c)
 | _=>False
theorem zCI [zae] (t:TypeId) (parts:List (Nat × Operand)) (Kp:PV→Prop):zfW T s.rw s.ev t ⟨parts⟩ Kp = zF4 T s.rw (T t).k (T t).size (T t).zero (zFh s parts) (kk Kp):=by
 unfold zfW zF4 kk
 cases (T t).k <;> first | rfl | skip
 simp only [zxq]
 rfl
theorem zjq (rw:Nat→Row) (fs:List (Nat × TypeId)) (z:Nat) (zs:List Value) (pp:List (Nat × PV)) (Kp:PV→Prop) :
 zF4 T rw (.struct fs) z zs pp (kk Kp) = (0 < z∧zgv T fs∧zcT T rw fs pp (zs.map PV.v) (kk fun c=>Kp (.ag c))):=(rfl)
theorem zoW (rw:Nat→Row) (fs:List (Nat × TypeId)) (c:List PV) (Kc:List PV→Prop):zcT T rw fs [] c (kk Kc) = Kc c:=(rfl)
def zHA (T:Tab) (rw:Nat→Row) (fs:List (Nat × TypeId)) (x:Option (Nat × TypeId)) (p:PV) (rest:List (Nat × PV)) (cells:List PV) (Kc:List PV→Prop):Prop :=
 match x with
 | some (off,ft)=>zaT rw p fun c=>c.length = (T ft).size∧off + c.length ≤ cells.length∧zcT T rw fs rest (spl cells off c) Kc
 | none=>False
theorem zlU (rw:Nat→Row) (fs:List (Nat × TypeId)) (i:Nat) (p:PV) (rest:List (Nat × PV)) (c:List PV) (Kc:List PV→Prop):zcT T rw fs ((i,p) :: rest) c (kk Kc) = zHA T rw fs fs[i]? p rest c (kk Kc):=by
 unfold zHA kk
 rw [zcT]
 cases fs[i]? <;> rfl
theorem zoX (rw:Nat→Row) (fs:List (Nat × TypeId)) (off:Nat) (ft:TypeId) (p:PV) (rest:List (Nat × PV)) (cells:List PV) (Kc:List PV→Prop) :
 zHA T rw fs (some (off,ft)) p rest cells (kk Kc) = zaT rw p (kk fun c=>c.length = (T ft).size∧off + c.length ≤ cells.length∧zcT T rw fs rest (spl cells off c) (kk Kc)):=(rfl)
section
variable {dst:Option Nat} {ty:TypeId} {pos:String} {af:Array Edge} {g:Option (Nat × Bool)}
theorem zoY [zae] (t:TypeId) (parts:List (Nat × Operand)):opK P T s ⟨dst,.build t ⟨parts⟩,ty,pos,af,g⟩ K = zF4 T s.rw (T t).k (T t).size (T t).zero (zFh s parts) (kk fun p=>K (s.put dst p)):=by
 rw [← zCI];rfl
def ncD (rw:Nat→Row) (kd:TK) (z:Nat) (x:PV) (Kb:Bool→Prop):Prop:=0 < z∧match kd with | .sli _=>slK rw x fun _ _ c=>Kb false∧(c = []→Kb true) | _=>False
theorem zjr [zae] (t t2:TypeId) (x:Operand):zdw P T s ⟨dst,.binOp .eql t x (.const (.slice none 0 0)) t2,ty,pos,af,g⟩ K = ncD s.rw (T t).k (T t).size (s.ev x) (kk fun b=>K (s.put dst (.v (.bool b)))):=(rfl)
theorem zjs [zae] (t t2:TypeId) (x:Operand):zdw P T s ⟨dst,.binOp .neq t x (.const (.slice none 0 0)) t2,ty,pos,af,g⟩ K = ncD s.rw (T t).k (T t).size (s.ev x) (kk fun b=>K (s.put dst (.v (.bool !b)))):=(rfl)
theorem zCJ (rw:Nat→Row) (e z z':Nat) (fr:Bool) (c:List PV) (Kb:Bool→Prop):ncD rw (.sli e) z (.sl fr z' c) (kk Kb) = (0 < z∧Kb false∧(c = []→Kb true)):=(rfl)
def zvq (r:Row) (ver:Nat) (Kb:Bool→Prop):Prop:=r.ver = ver∧match r.kind with | .nil=>Kb false∧Kb true | .sli _ _ _ c=>Kb false∧(c = []→Kb true) | _=>False
theorem zxr (rw:Nat→Row) (e z j v:Nat) (Kb:Bool→Prop):ncD rw (.sli e) z (.own j v) (kk Kb) = (0 < z∧zvq (rw j) v (kk Kb)):=by
 unfold ncD zvq kk slK
 dsimp only
 cases (rw j).kind <;> simp
theorem zoZ (ver e sz:Nat) (fz:Bool) (c:List PV) (Kb:Bool→Prop):zvq ⟨ver,.sli e sz fz c⟩ ver (kk Kb) = (Kb false∧(c = []→Kb true)):=by simp [zvq,kk]
theorem zo0 (ver:Nat) (Kb:Bool→Prop):zvq ⟨ver,.nil⟩ ver (kk Kb) = (Kb false∧Kb true):=by simp [zvq,kk]
theorem zto [zae] (x:Operand):zdw P T s ⟨dst,.move x,ty,pos,af,g⟩ K = opK P T s ⟨dst,.move x,ty,pos,af,g⟩ K:=(rfl)
theorem zlV [zae] (x:Operand):zdw P T s ⟨dst,.assign x,ty,pos,af,g⟩ K = opK P T s ⟨dst,.assign x,ty,pos,af,g⟩ K:=(rfl)
theorem ztp [zae] (c x y:Operand):zdw P T s ⟨dst,.pick c x y,ty,pos,af,g⟩ K = opK P T s ⟨dst,.pick c x y,ty,pos,af,g⟩ K:=(rfl)
theorem zCK [zae] (op:UnOp) (t:TypeId) (x:Operand):zdw P T s ⟨dst,.unOp op t x,ty,pos,af,g⟩ K = opK P T s ⟨dst,.unOp op t x,ty,pos,af,g⟩ K:=(rfl)
theorem zjt [zae] (a b:TypeId) (x:Operand):zdw P T s ⟨dst,.convert a b x,ty,pos,af,g⟩ K = opK P T s ⟨dst,.convert a b x,ty,pos,af,g⟩ K:=(rfl)
theorem ztq [zae] (t:TypeId) (x:Operand):zdw P T s ⟨dst,.load t x,ty,pos,af,g⟩ K = opK P T s ⟨dst,.load t x,ty,pos,af,g⟩ K:=(rfl)
theorem zgw [zae] (t:TypeId) (x:Operand) (f:Nat):zdw P T s ⟨dst,.fieldAddr t x f,ty,pos,af,g⟩ K = opK P T s ⟨dst,.fieldAddr t x f,ty,pos,af,g⟩ K:=(rfl)
theorem zo1 [zae] (t:TypeId) (x:Operand) (f:Nat):zdw P T s ⟨dst,.field t x f,ty,pos,af,g⟩ K = opK P T s ⟨dst,.field t x f,ty,pos,af,g⟩ K:=(rfl)
theorem zlW [zae] (t:TypeId) (x i:Operand) (ok:Bool):zdw P T s ⟨dst,.lookup t x i ok,ty,pos,af,g⟩ K = opK P T s ⟨dst,.lookup t x i ok,ty,pos,af,g⟩ K:=(rfl)
theorem zju [zae] (t:TypeId) (r:Option Operand):zdw P T s ⟨dst,.makeMap t r,ty,pos,af,g⟩ K = opK P T s ⟨dst,.makeMap t r,ty,pos,af,g⟩ K:=(rfl)
theorem zgx [zae] (t:TypeId) (m x y:Operand):zdw P T s ⟨dst,.mapUpdate t m x y,ty,pos,af,g⟩ K = opK P T s ⟨dst,.mapUpdate t m x y,ty,pos,af,g⟩ K:=(rfl)
theorem zgy [zae] (t:TypeId) (x i:Operand):zdw P T s ⟨dst,.indexAddr t x i,ty,pos,af,g⟩ K = opK P T s ⟨dst,.indexAddr t x i,ty,pos,af,g⟩ K:=(rfl)
theorem zo2 [zae] (t:TypeId) (x i:Operand):zdw P T s ⟨dst,.index t x i,ty,pos,af,g⟩ K = opK P T s ⟨dst,.index t x i,ty,pos,af,g⟩ K:=(rfl)
theorem zjv [zae] (x:Operand) (i:Nat):zdw P T s ⟨dst,.extract x i,ty,pos,af,g⟩ K = opK P T s ⟨dst,.extract x i,ty,pos,af,g⟩ K:=(rfl)
theorem zhZ [zae] (x:Operand):zdw P T s ⟨dst,.nilCheck x,ty,pos,af,g⟩ K = opK P T s ⟨dst,.nilCheck x,ty,pos,af,g⟩ K:=(rfl)
theorem zh0 [zae] (f:Fn) (fi caps:Array Operand):zdw P T s ⟨dst,.makeFunc f fi caps,ty,pos,af,g⟩ K = opK P T s ⟨dst,.makeFunc f fi caps,ty,pos,af,g⟩ K:=(rfl)
theorem zo3 [zae] (t:TypeId):zdw P T s ⟨dst,.alloc t,ty,pos,af,g⟩ K = opK P T s ⟨dst,.alloc t,ty,pos,af,g⟩ K:=(rfl)
theorem zxs [zae] (t:TypeId) (x:Operand):zdw P T s ⟨dst,.box t x,ty,pos,af,g⟩ K = opK P T s ⟨dst,.box t x,ty,pos,af,g⟩ K:=(rfl)
theorem zlX [zae] (t:TypeId) (n:Nat):zdw P T s ⟨dst,.buildSlice t n ⟨[]⟩,ty,pos,af,g⟩ K = opK P T s ⟨dst,.buildSlice t n ⟨[]⟩,ty,pos,af,g⟩ K:=(rfl)
theorem zlY [zae] (t:TypeId) (n:Nat) (p q:Nat × Operand) (l:List (Nat × Operand)):zdw P T s ⟨dst,.buildSlice t n ⟨p :: q :: l⟩,ty,pos,af,g⟩ K = opK P T s ⟨dst,.buildSlice t n ⟨p :: q :: l⟩,ty,pos,af,g⟩ K:=(rfl)
def zCL (T:Tab) (s:St) (d:Nat) (t:TypeId) (n i:Nat) (p:PV) (Kt:St→Prop) (A:Prop):Prop :=
 match p with
 | .own k ver=>(match (s.rw k).kind with | .tab _ _=>zka T s d t n i k ver Kt | .sli _ _ _ _=>A ∨ zka T s d t n i k ver Kt | _=>A)
 | _=>A
theorem zlZ [zae] (d:Nat) (t:TypeId) (n i:Nat) (x:Operand):zdw P T s ⟨some d,.buildSlice t n ⟨[(i,x)]⟩,ty,pos,af,g⟩ K =
 zCL T s d t n i (s.ev x) (kk K) (kk (opK P T s ⟨some d,.buildSlice t n ⟨[(i,x)]⟩,ty,pos,af,g⟩ K)):=by
 unfold zdw zCL kk
 dsimp only
 cases s.ev x <;> rfl
theorem zCM (d:Nat) (t:TypeId) (n i:Nat) (x:Value) (A:Prop):zCL T s d t n i (.v x) (kk K) (kk A) = A:=(rfl)
theorem zxt (d:Nat) (t:TypeId) (n i:Nat) (fr:Bool) (z:Nat) (c:List PV) (A:Prop):zCL T s d t n i (.sl fr z c) (kk K) (kk A) = A:=(rfl)
theorem zxu (d:Nat) (t:TypeId) (n i:Nat) (c:List PV) (A:Prop):zCL T s d t n i (.ag c) (kk K) (kk A) = A:=(rfl)
theorem zo4 (d:Nat) (t:TypeId) (n i:Nat) (fr:Bool) (c:List PV) (o:Nat) (A:Prop):zCL T s d t n i (.eref fr c o) (kk K) (kk A) = A:=(rfl)
theorem ztr (d:Nat) (t:TypeId) (n i:Nat) (j v o:Nat) (A:Prop):zCL T s d t n i (.ref j v o) (kk K) (kk A) = A:=(rfl)
def zts (T:Tab) (r:Row) (s:St) (d:Nat) (t:TypeId) (n i k ver:Nat) (Kt:St→Prop) (A:Prop):Prop:=match r.kind with | .tab _ _=>zka T s d t n i k ver Kt | .sli _ _ _ _=>A ∨ zka T s d t n i k ver Kt | _=>A
theorem ztt (d:Nat) (t:TypeId) (n i k ver:Nat) (A:Prop):zCL T s d t n i (.own k ver) (kk K) (kk A) = zts T (s.rw k) s d t n i k ver (kk K) (kk A):=(rfl)
theorem zl0 (d:Nat) (t:TypeId) (n i k ver v:Nat) (A:Prop):zts T ⟨v,.nil⟩ s d t n i k ver (kk K) (kk A) = A:=(rfl)
def zhm (T:Tab) (s:St) (d:Nat) (kd:TK) (z n i k ver:Nat) (r:Row) (K:St→Prop):Prop:=0 < z∧n = 1∧i = 0∧r.ver = ver∧r.kind.slice = true∧d ≠ k∧(match kd with
 | .sli e=>(T e).size = 1∧K ((s.row d ⟨(s.rw d).ver + 1,.tab e [.own k ver]⟩).put (some d) (.own d ((s.rw d).ver + 1)))
 | _=>False)
def orB (A B:Prop):Prop:=A ∨ B
theorem zHB {A B:Prop} {u:Dm A} {v:Dm B} (h:A):orB (kk A u) (kk B v):=.inl h
theorem zl1 (d:Nat) (t:TypeId) (n i k ver v e z:Nat) (fz:Bool) (c:List PV) (A:Prop):zts T ⟨v,.sli e z fz c⟩ s d t n i k ver (kk K) (kk A) = orB (kk A) (kk (zhm T s d (T t).k (T t).size n i k ver (s.rw k) K)):=(rfl)
theorem zjw (d e k ver e' z:Nat) (fz:Bool) (c:List PV) (h:(T e).size = 1):zhm T s d (.sli e) 1 1 0 k ver ⟨ver,.sli e' z fz c⟩ K = (d ≠ k∧K ((s.row d ⟨(s.rw d).ver + 1,.tab e [.own k ver]⟩).put (some d) (.own d ((s.rw d).ver + 1)))):=by
 simp only [zhm,h,RK.slice,Nat.one_pos,true_and]
theorem zl2 (d:Nat) (t:TypeId) (n i k ver v e:Nat) (c:List PV) (A:Prop):zts T ⟨v,.tab e c⟩ s d t n i k ver (kk K) (kk A) = zhm T s d (T t).k (T t).size n i k ver (s.rw k) K:=(rfl)
theorem zjx (d e k ver e':Nat) (c:List PV) (h:(T e).size = 1):zhm T s d (.sli e) 1 1 0 k ver ⟨ver,.tab e' c⟩ K = (d ≠ k∧K ((s.row d ⟨(s.rw d).ver + 1,.tab e [.own k ver]⟩).put (some d) (.own d ((s.rw d).ver + 1)))):=by
 simp only [zhm,h,RK.slice,Nat.one_pos,true_and]
def zCN (T:Tab) (s:St) (d:Nat) (t t2:TypeId) (x:PV) (y:PV) (Kt:St→Prop) (A:Prop):Prop :=
 match x with
 | .own k ver=>(match (s.rw k).kind with | .tab e c=>zHn T s d t t2 k ver e c y Kt | _=>A)
 | _=>A
def zFi (T:Tab) (s:St) (d:Nat) (t t2:TypeId) (x:PV) (y:PV) (Kt:St→Prop) (A:Prop):Prop :=
 match y with
 | .v (.string b)=>zrT T s d t t2 x b Kt
 | _=>zCN T s d t t2 x y Kt A
theorem zl3 [zae] (d:Nat) (x y:Operand) (t t2:TypeId):zdw P T s ⟨some d,.call ⟨.builtin .append,⟨[x,y]⟩,⟨[t,t2]⟩⟩,ty,pos,af,g⟩ K =
 zFi T s d t t2 (s.ev x) (s.ev y) (kk K) (kk (opK P T s ⟨some d,.call ⟨.builtin .append,⟨[x,y]⟩,⟨[t,t2]⟩⟩,ty,pos,af,g⟩ K)):=by
 unfold zdw zFi zCN kk
 dsimp only
 cases s.ev y with
 | v z=>cases z <;> first | rfl | (cases s.ev x <;> rfl)
 | _=>cases s.ev x <;> rfl
theorem ztu (d:Nat) (t t2:TypeId) (x:PV) (k ver:Nat) (A:Prop):zFi T s d t t2 x (.own k ver) (kk K) (kk A) = zCN T s d t t2 x (.own k ver) (kk K) (kk A):=(rfl)
theorem zxv (d:Nat) (t t2:TypeId) (x:PV) (fr:Bool) (z:Nat) (c:List PV) (A:Prop):zFi T s d t t2 x (.sl fr z c) (kk K) (kk A) = zCN T s d t t2 x (.sl fr z c) (kk K) (kk A):=(rfl)
theorem zl4 (d:Nat) (t t2:TypeId) (x:PV) (a:Option Addr) (n c:Nat) (A:Prop):zFi T s d t t2 x (.v (.slice a n c)) (kk K) (kk A) = zCN T s d t t2 x (.v (.slice a n c)) (kk K) (kk A):=(rfl)
def zxw (T:Tab) (r:Row) (s:St) (d:Nat) (kd:TK) (z:Nat) (kd2:TK) (z2 k ver:Nat) (b:ByteArray) (K:St→Prop):Prop :=
 0 < z∧0 < z2∧kd2 = .str∧match kd with
 | .sli e=>(T e).size = 1∧0 < (T e).bytes∧(r.ver = ver∧(match r.kind with
  | .nil=>b.size * (T e).bytes ≤ 140737488355328∧K (zcU s d k (.sli e (T e).size false (zga b)))
  | .sli e' sz' false c=>e' = e∧sz' = (T e).size∧(c.length + b.size) * (T e).bytes ≤ 140737488355328∧K (zcU s d k (.sli e (T e).size false (c ++ zga b)))
  | _=>False))
 | _=>False
theorem ztv (d:Nat) (t t2:TypeId) (k ver:Nat) (b:ByteArray) (A:Prop):zFi T s d t t2 (.own k ver) (.v (.string b)) (kk K) (kk A) = zxw T (s.rw k) s d (T t).k (T t).size (T t2).k (T t2).size k ver b (kk K):=(rfl)
theorem zo5 (d k ver e:Nat) (c:List PV) (b:ByteArray) (h:(T e).size = 1) (h2:(T e).bytes = 1):zxw T ⟨ver,.sli e 1 false c⟩ s d (.sli e) 1 .str 1 k ver b (kk K) =
 (c.length + b.size ≤ 140737488355328∧K (zcU s d k (.sli e 1 false (c ++ zga b)))):=by
 simp only [zxw,h,h2,Nat.one_pos,true_and,kk,Nat.mul_one]
theorem zo6 (d k ver e:Nat) (b:ByteArray) (h:(T e).size = 1) (h2:(T e).bytes = 1):zxw T ⟨ver,.nil⟩ s d (.sli e) 1 .str 1 k ver b (kk K) =
 (b.size ≤ 140737488355328∧K (zcU s d k (.sli e 1 false (zga b)))):=by
 simp only [zxw,h,h2,Nat.one_pos,true_and,kk,Nat.mul_one]
theorem zCO (d:Nat) (t t2:TypeId) (x:Value) (y:PV) (A:Prop):zCN T s d t t2 (.v x) y (kk K) (kk A) = A:=(rfl)
theorem zxx (d:Nat) (t t2:TypeId) (fr:Bool) (z:Nat) (c:List PV) (y:PV) (A:Prop):zCN T s d t t2 (.sl fr z c) y (kk K) (kk A) = A:=(rfl)
def zno (T:Tab) (r:Row) (s:St) (d:Nat) (t t2:TypeId) (k ver:Nat) (y:PV) (Kt:St→Prop) (A:Prop):Prop:=match r.kind with | .tab e c=>zHn T s d t t2 k ver e c y Kt | _=>A
theorem ztw (d:Nat) (t t2:TypeId) (k ver:Nat) (y:PV) (A:Prop):zCN T s d t t2 (.own k ver) y (kk K) (kk A) = zno T (s.rw k) s d t t2 k ver y (kk K) (kk A):=(rfl)
theorem zjy (d:Nat) (t t2:TypeId) (k ver v e z:Nat) (fz:Bool) (c:List PV) (y:PV) (A:Prop):zno T ⟨v,.sli e z fz c⟩ s d t t2 k ver y (kk K) (kk A) = A:=(rfl)
theorem zjz (d:Nat) (t t2:TypeId) (k ver v:Nat) (y:PV) (A:Prop):zno T ⟨v,.nil⟩ s d t t2 k ver y (kk K) (kk A) = A:=(rfl)
def zDO (T:Tab) (s:St) (d:Nat) (kd:TK) (z k ver e:Nat) (r:Row) (c:List PV) (y:PV) (K:St→Prop):Prop :=
 0 < z∧kd = .sli e∧(T e).size = 1∧0 < (T e).bytes∧r.ver = ver∧zvO s.rw y fun news=>(c.length + news.length) * (T e).bytes ≤ 140737488355328∧K (zcU s d k (.tab e (c ++ news)))
theorem zjA (d:Nat) (t:TypeId) (k ver v e:Nat) (c:List PV) (y:PV) (A:Prop):zno T ⟨v,.tab e c⟩ s d t t k ver y (kk K) (kk A) = zDO T s d (T t).k (T t).size k ver e (s.rw k) c y (kk K):=propext ⟨fun h=>h.2,fun h=>⟨rfl,h⟩⟩
theorem zo7 (d k ver e e':Nat) (c c':List PV) (y:PV) (h:(T e).size = 1) (h2:0 < (T e).bytes):zDO T s d (.sli e) 1 k ver e ⟨ver,.tab e' c'⟩ c y (kk K) =
 zvO s.rw y (kk fun news=>(c.length + news.length) * (T e).bytes ≤ 140737488355328∧K (zcU s d k (.tab e (c ++ news)))):=by
 simp only [zDO,h,h2,Nat.one_pos,true_and,kk]
def zo8 (r:Row) (rw:Nat→Row) (v:Nat) (Kc:List PV→Prop):Prop:=r.ver = v∧(match r.kind with
 | .sli _ sz _ c=>sz = 1∧(∀ p ∈ c,isV p = true)∧Kc c
 | .tab _ c=>(∀ p ∈ c,zih rw p)∧Kc c
 | _=>False)
theorem zo9 (rw:Nat→Row) (j v:Nat) (Kc:List PV→Prop):zvO rw (.own j v) (kk Kc) = zo8 (rw j) rw v (kk Kc):=(rfl)
theorem zpa [zae] (rw:Nat→Row) (v e:Nat) (fz:Bool) (xs:List Int) (Kc:List PV→Prop):zo8 ⟨v,.sli e 1 fz (iL xs)⟩ rw v (kk Kc) = Kc (iL xs):=by
 have:=zwQ xs
 simp only [zo8,this,true_and,kk]
theorem zl5 (rw:Nat→Row) (v e k ver:Nat) (Kc:List PV→Prop):zo8 ⟨v,.tab e [.own k ver]⟩ rw v (kk Kc) = (zih rw (.own k ver)∧Kc [.own k ver]):=by
 simp only [zo8,true_and,kk,List.mem_singleton,forall_eq]
theorem zpb [zae] (t:TypeId) (parts:Array (Nat × Operand)):zdw P T s ⟨dst,.build t parts,ty,pos,af,g⟩ K = opK P T s ⟨dst,.build t parts,ty,pos,af,g⟩ K:=(rfl)
theorem zpc [zae] (t:TypeId) (ad x:Operand):zdw P T s ⟨dst,.store t ad x,ty,pos,af,g⟩ K = opK P T s ⟨dst,.store t ad x,ty,pos,af,g⟩ K:=(rfl)
theorem ztx [zae] (t:TypeId) (l c:Operand):zdw P T s ⟨dst,.makeSlice t l c,ty,pos,af,g⟩ K = opK P T s ⟨dst,.makeSlice t l c,ty,pos,af,g⟩ K:=(rfl)
theorem zpd [zae] (t:TypeId) (x:Operand) (lo hi mx:Option Operand):zdw P T s ⟨dst,.slice t x lo hi mx,ty,pos,af,g⟩ K = opK P T s ⟨dst,.slice t x lo hi mx,ty,pos,af,g⟩ K:=(rfl)
theorem zjB [zae] (op:BinOp) (t t2:TypeId) (x:Operand) (y:Nat):zdw P T s ⟨dst,.binOp op t x (.tmp y) t2,ty,pos,af,g⟩ K = opK P T s ⟨dst,.binOp op t x (.tmp y) t2,ty,pos,af,g⟩ K:=by cases op <;> rfl
theorem zjC [zae] (op:BinOp) (t t2:TypeId) (x:Operand) (k:IntKind) (n:Int):zdw P T s ⟨dst,.binOp op t x (.const (.int k n)) t2,ty,pos,af,g⟩ K = opK P T s ⟨dst,.binOp op t x (.const (.int k n)) t2,ty,pos,af,g⟩ K:=by cases op <;> rfl
theorem zh1 [zae] (op:BinOp) (t t2:TypeId) (x:Operand) (b:Bool):zdw P T s ⟨dst,.binOp op t x (.const (.bool b)) t2,ty,pos,af,g⟩ K = opK P T s ⟨dst,.binOp op t x (.const (.bool b)) t2,ty,pos,af,g⟩ K:=by cases op <;> rfl
theorem zfJ [zae] (op:BinOp) (t t2:TypeId) (x:Operand) (b:ByteArray):zdw P T s ⟨dst,.binOp op t x (.const (.string b)) t2,ty,pos,af,g⟩ K = opK P T s ⟨dst,.binOp op t x (.const (.string b)) t2,ty,pos,af,g⟩ K:=by cases op <;> rfl
end
section
variable {dst:Option Nat} {ty:TypeId} {pos:String} {af:Array Edge} {g:Option (Nat × Bool)} {Ke:Ent→St→Prop}
theorem zxy [zae] (x:Operand):dK P T s ⟨dst,.move x,ty,pos,af,g⟩ (kk Ke) = evK (s.ev x) (kk fun p=>Ke ⟨[],.ids []⟩ (s.put dst p)):=(rfl)
theorem zpe [zae] (x:Operand):dK P T s ⟨dst,.assign x,ty,pos,af,g⟩ (kk Ke) = evK (s.ev x) (kk fun p=>Ke ⟨[],.ids []⟩ (s.put dst p)):=(rfl)
theorem zxz [zae] (c x y:Operand):dK P T s ⟨dst,.pick c x y,ty,pos,af,g⟩ (kk Ke) = zAZ (s.ev c) (kk (evK (s.ev x) (kk fun p=>Ke ⟨[],.ids []⟩ (s.put dst p)))) (kk (evK (s.ev y) (kk fun p=>Ke ⟨[],.ids []⟩ (s.put dst p)))):=(rfl)
theorem zCP [zae] (op:BinOp) (t t2:TypeId) (x y:Operand):dK P T s ⟨dst,.binOp op t x y t2,ty,pos,af,g⟩ (kk Ke) = zcN T op t (s.ev x) (s.ev y) (kk fun p=>Ke ⟨[],.ids []⟩ (s.put dst p)):=(rfl)
theorem zF5 [zae] (op:UnOp) (t:TypeId) (x:Operand):dK P T s ⟨dst,.unOp op t x,ty,pos,af,g⟩ (kk Ke) = unK op (s.ev x) (kk fun p=>Ke ⟨[],.ids []⟩ (s.put dst p)):=(rfl)
theorem zl6 [zae] (a b:TypeId) (x:Operand):dK P T s ⟨dst,.convert a b x,ty,pos,af,g⟩ (kk Ke) = zcS [s.ev x] [] (kk fun l=>zfz T s.rw a b (s.ev x) (kk fun p=>Ke ⟨l,.ids []⟩ (s.put dst p))):=(rfl)
theorem zxA [zae] (t:TypeId) (x:Operand):dK P T s ⟨dst,.load t x,ty,pos,af,g⟩ (kk Ke) = zcS [s.ev x] [] (kk fun l=>zrk s.rw (s.ev x) (kk fun m c off=>ldK T t m c off (kk fun p=>Ke ⟨l,.ids []⟩ (s.put dst p)))):=(rfl)
theorem zh2 [zae] (t:TypeId) (x:Operand) (f:Nat):dK P T s ⟨dst,.fieldAddr t x f,ty,pos,af,g⟩ (kk Ke) =
 zcS [s.ev x] [] (kk fun l=>zdp T t f (kk fun o _=>zkm (s.ev x) = true∧zda s.rw (s.ev x) (kk (evK (zdP (s.ev x) o) (kk fun p=>Ke ⟨l,.ids []⟩ (s.put dst p)))))):=(rfl)
theorem zty [zae] (t:TypeId) (x:Operand) (f:Nat):dK P T s ⟨dst,.field t x f,ty,pos,af,g⟩ (kk Ke) =
 agK (s.ev x) (kk fun c=>zdp T t f (kk fun o ft=>ldK T ft .asis c o (kk fun p=>Ke ⟨[],.ids []⟩ (s.put dst p)))):=zjl (P:=P) (T:=T) (s:=s) (K:=Ke ⟨[],.ids []⟩) (dst:=dst) (ty:=ty) (pos:=pos) (af:=af) (g:=g) t x f
theorem zh3 [zae] (t:TypeId) (x y:Operand):dK P T s ⟨dst,.indexAddr t x y,ty,pos,af,g⟩ (kk Ke) = zcS [s.ev x,s.ev y] [] (kk fun l=>zbg T s.rw t (s.ev x) (s.ev y) (kk fun p=>Ke ⟨l,.ids []⟩ (s.put dst p))):=(rfl)
theorem ztz [zae] (t:TypeId) (x y:Operand):dK P T s ⟨dst,.index t x y,ty,pos,af,g⟩ (kk Ke) = ztg T t (s.ev x) (s.ev y) (kk fun p=>Ke ⟨[],.ids []⟩ (s.put dst p)):=(rfl)
theorem zl7 [zae] (x:Operand) (n:Nat):dK P T s ⟨dst,.extract x n,ty,pos,af,g⟩ (kk Ke) = zHz (s.ev x) (kk fun ps=>n < ps.length∧evK (ps.getD n .junk) (kk fun p=>Ke ⟨[],.ids []⟩ (s.put dst p))):=(rfl)
theorem zjD [zae] (f:FuncId) (caps:Array Operand):dK P T s ⟨dst,.makeFunc (.func f) #[] caps,ty,pos,af,g⟩ (kk Ke) = Ke ⟨[],.ids []⟩ (s.put dst (.clo f (caps.toList.map s.ev))):=by
 show (#[] = (#[]:Array Operand)∧Ke ⟨[],.ids []⟩ (s.put dst (.clo f (caps.toList.map s.ev)))) = _
 simp
theorem zjE [zae] (x:Operand):dK P T s ⟨dst,.nilCheck x,ty,pos,af,g⟩ (kk Ke) = zcS [s.ev x] [] (kk fun l=>zda s.rw (s.ev x) (kk (evK (s.ev x) (kk fun p=>Ke ⟨l,.ids []⟩ (s.put dst p))))):=(rfl)
theorem zCQ [zae] (x:Operand) (t:TypeId):dK P T s ⟨dst,.call ⟨.builtin .len,#[x],#[t]⟩,ty,pos,af,g⟩ (kk Ke) = zcS [s.ev x] [] (kk fun l=>zze T s.rw t (s.ev x) (kk fun p=>Ke ⟨l,.ids []⟩ (s.put dst p))):=(rfl)
theorem zCR [zae] (x y:Operand) (ts:Array TypeId):dK P T s ⟨dst,.call ⟨.builtin .max,#[x,y],ts⟩,ty,pos,af,g⟩ (kk Ke) = zcS [s.ev x,s.ev y] [] (kk fun l=>zcu true (s.ev x) (s.ev y) (kk fun p=>Ke ⟨l,.ids []⟩ (s.put dst p))):=(rfl)
theorem zCS [zae] (x y:Operand) (ts:Array TypeId):dK P T s ⟨dst,.call ⟨.builtin .min,#[x,y],ts⟩,ty,pos,af,g⟩ (kk Ke) = zcS [s.ev x,s.ev y] [] (kk fun l=>zcu false (s.ev x) (s.ev y) (kk fun p=>Ke ⟨l,.ids []⟩ (s.put dst p))):=(rfl)
theorem zpf [zae] (t:TypeId) (x:Operand) (mx:Option Operand):dK P T s ⟨dst,.slice t x none none mx,ty,pos,af,g⟩ (kk Ke) = zcS (s.ev x :: (mx.toList).map s.ev) [] (kk fun l=>zbr T s.rw s.ev t (s.ev x) none none mx (kk fun p=>Ke ⟨l,.ids []⟩ (s.put dst p))):=by
 cases mx <;> rfl
theorem zpg [zae] (t:TypeId) (x lo:Operand):dK P T s ⟨dst,.slice t x (some lo) none none,ty,pos,af,g⟩ (kk Ke) = zcS [s.ev x,s.ev lo] [] (kk fun l=>zbr T s.rw s.ev t (s.ev x) (some lo) none none (kk fun p=>Ke ⟨l,.ids []⟩ (s.put dst p))):=(rfl)
def zph (T:Tab) (s:St) (dst:Option Nat) (t:TypeId) (x hi:Operand) (r:Row) (k ver:Nat) (py:PV) (Ke:Ent→St→Prop):Prop :=
 match r.kind with
 | .sli _ _ false _=>zJH T s dst t r k ver py Ke
 | _=>zcS [.own k ver,py] [] (kk fun l=>zbr T s.rw s.ev t (.own k ver) none (some hi) none (kk fun p=>Ke ⟨l,.ids []⟩ (s.put dst p)))
def zF6 (T:Tab) (s:St) (dst:Option Nat) (t:TypeId) (x hi:Operand) (px py:PV) (Ke:Ent→St→Prop):Prop :=
 match px with
 | .own k ver=>zph T s dst t x hi (s.rw k) k ver py Ke
 | _=>zcS [px,py] [] (kk fun l=>zbr T s.rw s.ev t px none (some hi) none (kk fun p=>Ke ⟨l,.ids []⟩ (s.put dst p)))
theorem ztA (t:TypeId) (x hi:Operand) (k ver:Nat) (py:PV):zF6 T s dst t x hi (.own k ver) py (kk Ke) = zph T s dst t x hi (s.rw k) k ver py (kk Ke):=(rfl)
theorem zxB (t:TypeId) (x hi:Operand) (fr:Bool) (z:Nat) (c:List PV) (py:PV):zF6 T s dst t x hi (.sl fr z c) py (kk Ke) = zcS [.sl fr z c,py] [] (kk fun l=>zbr T s.rw s.ev t (.sl fr z c) none (some hi) none (kk fun p=>Ke ⟨l,.ids []⟩ (s.put dst p))):=(rfl)
theorem zCT (t:TypeId) (x hi:Operand) (v:Value) (py:PV):zF6 T s dst t x hi (.v v) py (kk Ke) = zcS [.v v,py] [] (kk fun l=>zbr T s.rw s.ev t (.v v) none (some hi) none (kk fun p=>Ke ⟨l,.ids []⟩ (s.put dst p))):=(rfl)
theorem zpi (t:TypeId) (x hi:Operand) (v e z:Nat) (c:List PV) (k ver:Nat) (py:PV):zph T s dst t x hi ⟨v,.sli e z true c⟩ k ver py (kk Ke) = zcS [.own k ver,py] [] (kk fun l=>zbr T s.rw s.ev t (.own k ver) none (some hi) none (kk fun p=>Ke ⟨l,.ids []⟩ (s.put dst p))):=(rfl)
def zHC (T:Tab) (t e:TypeId):Prop:=0 < (T t).size∧(T t).k = .sli e∧0 < (T e).size∧(T e).size = 1
theorem zjF (t:TypeId) (x hi:Operand) (v e:Nat) (c:List PV) (k ver d:Nat) (kd:IntKind) (m:Int):zph T s (some d) t x hi ⟨v,.sli e 1 false c⟩ k ver (.v (.int kd m)) (kk Ke) =
 (v = ver∧zHC T t e∧0 ≤ m∧m ≤ (c.length:Int)∧Ke ⟨[],.ids [k]⟩ ((s.row k ⟨ver + 1,.sli e 1 false (c.take m.toNat)⟩).put (some d) (.own k (ver + 1)))):=by
 refine propext ⟨fun h=>?_,fun ⟨h1,⟨h2,h3,h4,h5⟩,h6,h7,h8⟩=>⟨d,e,c,kd,m,rfl,by rw [h1],h2,h3,h4,h5,rfl,h6,h7,h8⟩⟩
 obtain ⟨d',e',c',kd',m',g1,g2,g3,g4,g5,g6,g7,g8,g9,g10⟩:=h
 cases g1;cases g2;cases g7
 exact ⟨rfl,⟨g3,g4,g5,g6⟩,g8,g9,g10⟩
theorem zpj [zae] (t:TypeId) (x hi:Operand):dK P T s ⟨dst,.slice t x none (some hi) none,ty,pos,af,g⟩ (kk Ke) = zF6 T s dst t x hi (s.ev x) (s.ev hi) (kk Ke):=by
 have hr:(zeB T s.rw s.ev (.slice t x none (some hi) none) fun p=>Ke ⟨znx s ⟨dst,.slice t x none (some hi) none,ty,pos,af,g⟩,.ids []⟩ (s.put dst p)) = zcS [s.ev x,s.ev hi] [] (kk fun l=>zbr T s.rw s.ev t (s.ev x) none (some hi) none (kk fun p=>Ke ⟨l,.ids []⟩ (s.put dst p))):=(rfl)
 show zHm T s ⟨dst,.slice t x none (some hi) none,ty,pos,af,g⟩ t (s.ev x) (s.ev hi) (kk Ke) = _
 cases hx:s.ev x with
 | own k ver =>
   rw [hx] at hr
   unfold zHm zF6 zph
   dsimp only
   generalize s.rw k = r
   cases r with
   | mk v kd =>
     cases kd with
     | sli e z fz c=>cases fz with
       | false=>rfl
       | true=>exact hr
     | _=>exact hr
 | _=>rw [hx] at hr;exact hr
theorem zpk [zae] (t:TypeId) (x lo hi:Operand):dK P T s ⟨dst,.slice t x (some lo) (some hi) none,ty,pos,af,g⟩ (kk Ke) = zcS [s.ev x,s.ev lo,s.ev hi] [] (kk fun l=>zbr T s.rw s.ev t (s.ev x) (some lo) (some hi) none (kk fun p=>Ke ⟨l,.ids []⟩ (s.put dst p))):=(rfl)
theorem ztB [zae] (t:TypeId) (parts:List (Nat × Operand)):dK P T s ⟨dst,.build t ⟨parts⟩,ty,pos,af,g⟩ (kk Ke) = zcS (evs s parts) [] (kk fun l=>zF4 T s.rw (T t).k (T t).size (T t).zero (zFh s parts) (kk fun p=>Ke ⟨l,.ids []⟩ (s.put dst p))):=by
 have e:((Op.build t ⟨parts⟩).operands.toList.map s.ev).flatMap zdZ = (evs s parts).flatMap zdZ:=by
  simp [Op.operands,evs]
  rfl
 show zeB T s.rw s.ev (.build t ⟨parts⟩) (fun p=>Ke ⟨((Op.build t ⟨parts⟩).operands.toList.map s.ev).flatMap zdZ,.ids []⟩ (s.put dst p)) = _
 rw [e]
 exact (zCI (T:=T) (s:=s) t parts (fun p=>Ke ⟨(evs s parts).flatMap zdZ,.ids []⟩ (s.put dst p)))
def zDP [zae] (P:Program) (f:FuncId) (raw:List PV) (d:Nat) (s:St) (Ke:Ent→St→Prop):Prop:=zGk P s f raw d (fun rd k s1=>Ke ⟨rd,.ids [d,k]⟩ s1)
theorem zDQ [zae] {f:FuncId} {args raw lent:List PV} {k v e e2 d:Nat} {p:List Nat} {rows rows':List (List PV)} {r:RV} {Ka:RV→Prop} {us:Dm s} {u:Dm Ke} (h:AT P f args e e2 rows rows' (.rv r))
 (hg:GiveL [(k,v)] raw args) (ht:TabIs s.rw k v e e2 p rows) (hn:p.Nodup) (hd:d % 1000 ≠ k % 1000) (hk:Ke ⟨[],.ids [d,k]⟩ (zak (s.killed k p) d r)):zhY P f lent Ka (zDP P f raw d (kk s us) (kk Ke u)) :=
 .inr (.inl ⟨k,v,e,e2,p,rows,rows',args,r,h,hg,ht,hn,hd,hk⟩)
theorem ztC [zae] {f:FuncId} {pre pre' raw head out lent:List PV} {e j vj d:Nat} {ok:Bool} {Ka:RV→Prop} {us:Dm s} {u:Dm Ke} (h:AF P f pre head e out ok) (hq:zDY pre pre') (hraw:raw = pre' ++ [.own j vj]) (hj:s.rw j = ⟨vj,.sli e 1 false head⟩) (hp:zbB head) (hd:d % 1000 ≠ j % 1000) (hjl:j < 1000000)
 (hk:Ke ⟨[],.ids [d,j]⟩ (((s.row j ⟨vj + 1,.dead⟩).row d ⟨(s.rw d).ver + 1,.sli e 1 false out⟩).put (some d) (.tup [.own d ((s.rw d).ver + 1),.v (.bool ok)]))):zhY P f lent Ka (zDP P f raw d (kk s us) (kk Ke u)):=by
 have hrd:((s.row j ⟨(s.rw j).ver + 1,.dead⟩).rw d) = s.rw d:=zai _ _ fun h=>hd (by rw [h])
 have hk2:Ke ⟨[],.ids [d,j]⟩ (zak (s.killed j []) d (rvF e out ok)):=by
  rw [zDj,zmE,hrd,hj];exact hk
 exact .inr (.inr (.inl ⟨j,vj,e,pre,pre',head,out,ok,h,hq,hraw,hj,hp,hd,hjl,hk2⟩))
theorem ztD [zae] {f:FuncId} {raw lent:List PV} {k d:Nat} {p:PV} {r:Row} {Ka:RV→Prop} {us:Dm s} {u:Dm Ke} (h:∀ s':St,s'.rw k = s.rw k→∀ K':St→Prop,K' ((s'.row k r).put (some d) p)→askG P s' f raw (some d) K') (hd:d % 1000 ≠ k % 1000)
 (hk:Ke ⟨[],.ids [d,k]⟩ ((s.row k r).put (some d) p)):zhY P f lent Ka (zDP P f raw d (kk s us) (kk Ke u)):=.inr (.inr (.inr ⟨[],k,.im .junk,r,some p,fun s' hs _=>h s' hs,hd,hk⟩))
theorem zxC [zae] (d:Nat) (f:Operand) (args:List Operand) (ts:Array TypeId):dK P T s ⟨some d,.call ⟨.value f,⟨args⟩,ts⟩,ty,pos,af,g⟩ (kk Ke) =
 zeA s.rw 3 (zxl s args) [] (kk fun l=>zeA s.rw 4 [s.ev f] l (kk fun l'=>zAM (s.ev f) (kk fun g caps=>zhY P g (zhl s args ++ caps.map (zck s.rw 3)) (kk fun rv=>Ke ⟨l',.res d⟩ (zak s d rv)) (zDP P g (zxl s args ++ caps) d (kk s) (kk Ke))))):=by
 simp only [zeA,zAY,List.nil_append,List.flatMap_cons,List.flatMap_nil,List.append_nil]
 show (zd4 P s.rw s.ev f ⟨args⟩ (fun rv=>Ke ⟨(zxl s args).flatMap (zdL s.rw 3) ++ zdL s.rw 4 (s.ev f),.res d⟩ (zak s d rv)) ∨ tdK P s f ⟨.value f,⟨args⟩,ts⟩ d Ke) = _
 unfold zd4 tdK zAM zhY zDP kk
 cases s.ev f <;> first | rfl | (simp;done) | skip
theorem zh4 [zae] (f:Operand) (args:List Operand) (ts:Array TypeId):dK P T s ⟨none,.call ⟨.value f,⟨args⟩,ts⟩,ty,pos,af,g⟩ (kk Ke) =
 zeA s.rw 3 (zxl s args) [] (kk fun l=>zeA s.rw 4 [s.ev f] l (kk fun l'=>zAM (s.ev f) (kk fun g caps=>zhY P g (zhl s args ++ caps.map (zck s.rw 3)) (kk fun rv=>Ke ⟨l',.ids []⟩ s) False))):=by
 have e:=zA1 (P:=P) (s:=s) f args (fun rv=>Ke ⟨(zxl s args).flatMap (zdL s.rw 3) ++ zdL s.rw 4 (s.ev f),.ids []⟩ s)
 simp only [zeA,zAY,List.nil_append,List.flatMap_cons,List.flatMap_nil,List.append_nil]
 exact e
theorem zpl [zae] (d:Nat) (x y:Operand) (t t2:TypeId):dK P T s ⟨some d,.call ⟨.builtin .append,#[x,y],#[t,t2]⟩,ty,pos,af,g⟩ (kk Ke) =
 zcS [s.ev y] [] (kk fun l=>zcS [s.ev x] [d] (kk fun l'=>opK P T s ⟨some d,.call ⟨.builtin .append,#[x,y],#[t,t2]⟩,ty,pos,af,g⟩ (Ke ⟨l,.ids l'⟩))):=by
 have e:∀ p:PV,[p].flatMap zdZ = zdZ p:=fun p=>by simp
 unfold zcS
 simp only [kk,e,List.nil_append]
 rfl
theorem ztE [zae] (d:Nat) (t:TypeId):dK P T s ⟨some d,.alloc t,ty,pos,af,g⟩ (kk Ke) = opK P T s ⟨some d,.alloc t,ty,pos,af,g⟩ (Ke ⟨[],.ids [d]⟩):=(rfl)
theorem zCU [zae] (d:Nat) (t:TypeId) (x:Operand):dK P T s ⟨some d,.box t x,ty,pos,af,g⟩ (kk Ke) = zcS [s.ev x] [] (kk fun l=>opK P T s ⟨some d,.box t x,ty,pos,af,g⟩ (Ke ⟨l,.ids [d]⟩)):=by
 have e:∀ p:PV,[p].flatMap zdZ = zdZ p:=fun p=>by simp
 unfold zcS
 simp only [kk,e,List.nil_append]
 rfl
theorem zgz [zae] (d:Nat) (t:TypeId) (n:Nat) (parts:List (Nat × Operand)):dK P T s ⟨some d,.buildSlice t n ⟨parts⟩,ty,pos,af,g⟩ (kk Ke) = zcS (evs s parts) [d] (kk fun l=>opK P T s ⟨some d,.buildSlice t n ⟨parts⟩,ty,pos,af,g⟩ (Ke ⟨[],.ids l⟩)):=(rfl)
theorem ztF [zae] (t:TypeId) (ad x:Operand):dK P T s ⟨dst,.store t ad x,ty,pos,af,g⟩ (kk Ke) = zcS [s.ev ad,s.ev x] [] (kk fun l=>opK P T s ⟨dst,.store t ad x,ty,pos,af,g⟩ (Ke ⟨[],.ids l⟩)):=by
 have e:[s.ev ad,s.ev x].flatMap zdZ = zdZ (s.ev ad) ++ zdZ (s.ev x):=by simp
 unfold zcS
 simp only [kk,e,List.nil_append]
 rfl
theorem zxD [zae] (d:Nat) (t:TypeId) (l c:Operand):dK P T s ⟨some d,.makeSlice t l c,ty,pos,af,g⟩ (kk Ke) = opK P T s ⟨some d,.makeSlice t l c,ty,pos,af,g⟩ (Ke ⟨[],.ids [d]⟩):=(rfl)
end
def TK.isInt:TK→Bool | .int _=>true | _=>false
theorem zxE (k:IntKind):TK.isInt (.int k) = true:=(rfl)
theorem zxF (k:IntKind):TK.agg (.int k) = false:=(rfl)
theorem ztG:TK.isInt (.bool) = false:=(rfl)
theorem ztH:TK.agg (.bool) = false:=(rfl)
theorem zxG:TK.isInt (.str) = false:=(rfl)
theorem zxH:TK.agg (.str) = false:=(rfl)
theorem zxI (e:TypeId):TK.isInt (.sli e) = false:=(rfl)
theorem zxJ (e:TypeId):TK.agg (.sli e) = false:=(rfl)
theorem zl8 (f:List (Nat × TypeId)):TK.isInt (.struct f) = false:=(rfl)
theorem zl9 (f:List (Nat × TypeId)):TK.agg (.struct f) = true:=(rfl)
theorem zxK (n:Nat) (e:TypeId):TK.isInt (.arr n e) = false:=(rfl)
theorem zxL (n:Nat) (e:TypeId):TK.agg (.arr n e) = true:=(rfl)
theorem zxM (k e:TypeId):TK.isInt (.map k e) = false:=(rfl)
theorem zxN (k e:TypeId):TK.agg (.map k e) = false:=(rfl)
theorem zpm:TK.isInt (.other) = false:=(rfl)
theorem zpn:TK.agg (.other) = false:=(rfl)
theorem ztI (l:List Oper):l.toArray.toList = l:=(rfl)
section
variable {Kp:PV→Prop} {rw:Nat→Row}
section
variable (t:TypeId) (k:IntKind) (a b:Int)
theorem zxO:zcN T .add t (.v (.int k a)) (.v (.int k b)) Kp = Kp (.v (.int k (k.wrap (a + b)))):=by simp [zcN,zbs,zbX]
theorem zxP:zcN T .sub t (.v (.int k a)) (.v (.int k b)) Kp = Kp (.v (.int k (k.wrap (a - b)))):=by simp [zcN,zbs,zbX]
theorem zxQ:zcN T .mul t (.v (.int k a)) (.v (.int k b)) Kp = Kp (.v (.int k (k.wrap (a * b)))):=by simp [zcN,zbs,zbX]
theorem zxR:zcN T .quo t (.v (.int k a)) (.v (.int k b)) Kp = (b ≠ 0∧Kp (.v (.int k (k.wrap (a.tdiv b))))):=by simp [zcN,zbs,zbX]
theorem zxS:zcN T .rem t (.v (.int k a)) (.v (.int k b)) Kp = (b ≠ 0∧Kp (.v (.int k (a.tmod b)))):=by simp [zcN,zbs,zbX]
theorem zxT:zcN T .and t (.v (.int k a)) (.v (.int k b)) Kp = Kp (.v (.int k (zfO k a b))):=by simp [zcN,zbs,zbX]
theorem zCV:zcN T .or t (.v (.int k a)) (.v (.int k b)) Kp = Kp (.v (.int k (ior k a b))):=by simp [zcN,zbs,zbX]
theorem zxU:zcN T .xor t (.v (.int k a)) (.v (.int k b)) Kp = Kp (.v (.int k (zGr k a b))):=by simp [zcN,zbs,zbX]
theorem zma:zcN T .andNot t (.v (.int k a)) (.v (.int k b)) Kp = Kp (.v (.int k (zcv k a b))):=by simp [zcN,zbs,zbX]
theorem zxV (k':IntKind):zcN T .shl t (.v (.int k a)) (.v (.int k' b)) Kp = (0 ≤ b∧Kp (.v (.int k (znL k a b)))):=by simp [zcN,zbs,zbX]
theorem zxW (k':IntKind):zcN T .shr t (.v (.int k a)) (.v (.int k' b)) Kp = (0 ≤ b∧Kp (.v (.int k (zv1 k a b)))):=by simp [zcN,zbs,zbX]
theorem zxX:zcN T .eql t (.v (.int k a)) (.v (.int k b)) Kp = Kp (.v (.bool (a == b))):=by simp [zcN,zbs,zbX]
theorem zxY:zcN T .neq t (.v (.int k a)) (.v (.int k b)) Kp = Kp (.v (.bool (a != b))):=by simp [zcN,zbs,zbX]
theorem zxZ:zcN T .lss t (.v (.int k a)) (.v (.int k b)) Kp = Kp (.v (.bool (decide (a < b)))):=by simp [zcN,zbs,zbX]
theorem zx0:zcN T .leq t (.v (.int k a)) (.v (.int k b)) Kp = Kp (.v (.bool (decide (a ≤ b)))):=by simp [zcN,zbs,zbX]
theorem zx1:zcN T .gtr t (.v (.int k a)) (.v (.int k b)) Kp = Kp (.v (.bool (decide (b < a)))):=by simp [zcN,zbs,zbX]
theorem zx2:zcN T .geq t (.v (.int k a)) (.v (.int k b)) Kp = Kp (.v (.bool (decide (b ≤ a)))):=by simp [zcN,zbs,zbX]
end
theorem zjG (t:TypeId) (a b:ByteArray):zcN T .eql t (.v (.string a)) (.v (.string b)) Kp = Kp (.v (.bool (a.toList == b.toList))):=by simp [zcN,zmS]
theorem zjH (t:TypeId) (a b:ByteArray):zcN T .neq t (.v (.string a)) (.v (.string b)) Kp = Kp (.v (.bool (!(a.toList == b.toList)))):=by simp [zcN,zmS]
theorem zjI (t:TypeId) (a b:ByteArray):zcN T .add t (.v (.string a)) (.v (.string b)) Kp = (a.size + b.size ≤ 9223372036854775807∧Kp (.v (.string (a ++ b)))):=by simp [zcN,zmS]
theorem zh5 (t:TypeId) (a b:Bool):zcN T .eql t (.v (.bool a)) (.v (.bool b)) Kp = ((T t).k = .bool∧0 < (T t).size∧Kp (.v (.bool (a == b)))):=by simp [zcN]
theorem zh6 (t:TypeId) (a b:Bool):zcN T .neq t (.v (.bool a)) (.v (.bool b)) Kp = ((T t).k = .bool∧0 < (T t).size∧Kp (.v (.bool (!(a == b))))):=by simp [zcN]
theorem zCW (b:Bool):unK .not (.v (.bool b)) Kp = Kp (.v (.bool !b)):=(rfl)
theorem zCX (k:IntKind) (n:Int):unK .neg (.v (.int k n)) Kp = Kp (.v (.int k (k.wrap (0 - n)))):=(rfl)
theorem ztJ (fr:Bool) (c:List PV) (off:Nat) (Km:Md→List PV→Nat→Prop):zrk rw (.eref fr c off) Km = Km (.set fr) c off:=(rfl)
def zjJ (r:Row) (ver off:Nat) (Km:Md→List PV→Nat→Prop):Prop:=r.ver = ver∧match r.kind with | .box _ c=>Km .asis c off | .sli _ _ _ c=>Km (.set true) c off | .tab _ c=>Km .asis c off | _=>False
theorem zx3 (j ver off:Nat) (Km:Md→List PV→Nat→Prop):zrk rw (.ref j ver off) Km = zjJ (rw j) ver off Km:=(rfl)
theorem zmb (ver off:Nat) (bt:TypeId) (c:List PV) (Km:Md→List PV→Nat→Prop):zjJ ⟨ver,.box bt c⟩ ver off Km = Km .asis c off:=by simp [zjJ]
theorem zmc (ver off e:Nat) (c:List PV) (Km:Md→List PV→Nat→Prop):zjJ ⟨ver,.tab e c⟩ ver off Km = Km .asis c off:=by simp [zjJ]
theorem zmd (ver off e sz:Nat) (fz:Bool) (c:List PV) (Km:Md→List PV→Nat→Prop):zjJ ⟨ver,.sli e sz fz c⟩ ver off Km = Km (.set true) c off:=by simp [zjJ]
def zh7 (r:Row) (ver:Nat) (K:PV→Prop):Prop:=r.ver = ver∧match r.kind with | .nil=>K (.v (.int .i64 0)) | .sli _ sz _ c=>0 < sz∧K (.v (.int .i64 ((c.length / sz:Nat):Int))) | .tab _ c=>K (.v (.int .i64 (c.length:Int))) | _=>False
def zDR (rw:Nat→Row) (k:TK) (z:Nat) (x:PV) (K:PV→Prop):Prop :=
 0 < z∧match k with
 | .str=>(match x with | .v (.string s)=>K (.v (.int .i64 s.size)) | _=>False)
 | .sli _=>zwC rw x fun sz n=>0 < sz∧K (.v (.int .i64 ((n / sz:Nat):Int)))
 | .arr n _=>K (.v (.int .i64 n))
 | _=>False
theorem zCY (t:TypeId) (x:PV):zze T rw t x Kp = zDR rw (T t).k (T t).size x Kp:=(rfl)
theorem zx4 (b:ByteArray):zDR rw .str 1 (.v (.string b)) Kp = Kp (.v (.int .i64 b.size)):=by simp [zDR]
theorem zCZ (e:TypeId) (fr:Bool) (c:List PV):zDR rw (.sli e) 1 (.sl fr 1 c) Kp = Kp (.v (.int .i64 (c.length:Int))):=by simp [zDR,zwC]
theorem zx5 (e:TypeId) (j ver:Nat):zDR rw (.sli e) 1 (.own j ver) Kp = zh7 (rw j) ver Kp:=by
 simp only [zDR,zwC,zh7,true_and,Nat.one_pos]
 cases (rw j).kind <;> simp
theorem zme (ver e:Nat) (fz:Bool) (c:List PV):zh7 ⟨ver,.sli e 1 fz c⟩ ver Kp = Kp (.v (.int .i64 (c.length:Int))):=by simp [zh7]
theorem zmf (ver e:Nat) (c:List PV):zh7 ⟨ver,.tab e c⟩ ver Kp = Kp (.v (.int .i64 (c.length:Int))):=by simp [zh7]
theorem zmg (ver:Nat):zh7 ⟨ver,.nil⟩ ver Kp = Kp (.v (.int .i64 0)):=by simp [zh7]
def zrs (T:Tab) (t:TypeId) (r:Row) (ver:Nat) (a:Int) (K:PV→Prop):Prop:=r.ver = ver∧match r.kind with | .mp f=>zDm T t∧K (.v (.int .i64 (f a))) | _=>False
theorem ztK (t:TypeId) (j ver:Nat) (a:Int):zit T rw t (.own j ver) (.v (.int .u64 a)) Kp = zrs T t (rw j) ver a Kp:=(rfl)
theorem zmh (t:TypeId) (ver:Nat) (f:Int→Int) (a:Int):zrs T t ⟨ver,.mp f⟩ ver a Kp = (zDm T t∧Kp (.v (.int .i64 (f a)))):=by simp [zrs]
def zx6 (T:Tab) (t:TypeId) (r:Row) (ver:Nat) (K:(Int→Int)→Prop):Prop:=r.ver = ver∧match r.kind with | .mp f=>zDm T t∧K f | _=>False
theorem zx7 {s:St} {K:St→Prop} (t:TypeId) (j ver:Nat) (a v:Int):zFk T s t (.own j ver) (.v (.int .u64 a)) (.v (.int .i64 v)) (kk K) = zx6 T t (s.rw j) ver (kk fun f=>K (s.row j ⟨ver,.mp (zqz f a v)⟩)):=(rfl)
theorem zpo (t:TypeId) (ver:Nat) (f:Int→Int) (K:(Int→Int)→Prop):zx6 T t ⟨ver,.mp f⟩ ver (kk K) = (zDm T t∧K f):=by simp [zx6,kk]
def iaD (T:Tab) (rw:Nat→Row) (kd:TK) (z:Nat) (x i:PV) (K:PV→Prop):Prop :=
 match i with
 | .v (.int _ n) =>
   0 < z∧match kd with
   | .sli e =>
     (match x with
     | .sl fr sz c=>0 < (T e).size∧sz = (T e).size∧0 ≤ n∧n.toNat * sz < c.length∧K (.eref fr c (n.toNat * sz))
     | .own k ver=>(rw k).ver = ver∧match (rw k).kind with | .sli _ sz _ c=>0 < (T e).size∧sz = (T e).size∧0 ≤ n∧n.toNat * sz < c.length∧K (.ref k ver (n.toNat * sz)) | .tab _ c=>(T e).size = 1∧0 ≤ n∧n.toNat < c.length∧K (.ref k ver n.toNat) | _=>False
     | _=>False)
   | .arr len e=>zkm x = true∧0 < (T e).size∧0 ≤ n∧n < len∧zda rw x (K (zdP x (n.toNat * (T e).size)))
   | _=>False
 | _=>False
theorem zF7 (t:TypeId) (x i:PV):zbg T rw t x i Kp = iaD T rw (T t).k (T t).size x i Kp:=(rfl)
theorem zF8 {e:TypeId} {k:IntKind} (fr:Bool) (c:List PV) (n:Int) (h2:(T e).size = 1) :
 iaD T rw (.sli e) 1 (.sl fr 1 c) (.v (.int k n)) Kp = (0 ≤ n∧n < (c.length:Int)∧Kp (.eref fr c n.toNat)):=by
 simp only [iaD,h2,Nat.mul_one,true_and,Nat.one_pos]
 refine propext ⟨fun ⟨a,b,c⟩=>⟨a,by omega,c⟩,fun ⟨a,b,c⟩=>⟨a,by omega,c⟩⟩
def zvr (r:Row) (j ver:Nat) (n:Int) (K:PV→Prop):Prop:=r.ver = ver∧match r.kind with | .sli _ sz _ c=>sz = 1∧0 ≤ n∧n < (c.length:Int)∧K (.ref j ver n.toNat) | .tab _ c=>0 ≤ n∧n < (c.length:Int)∧K (.ref j ver n.toNat) | _=>False
theorem zC0 {e:TypeId} {k:IntKind} (j ver:Nat) (n:Int) (h2:(T e).size = 1) :
 iaD T rw (.sli e) 1 (.own j ver) (.v (.int k n)) Kp = zvr (rw j) j ver n Kp:=by
 simp only [iaD,h2,zvr,true_and,Nat.one_pos]
 cases (rw j).kind <;> simp
 ·rintro _ rfl h
  rw [Nat.mul_one]
  exact ⟨fun ⟨a,b⟩=>⟨by omega,b⟩,fun ⟨a,b⟩=>⟨by omega,b⟩⟩
 ·intros;omega
theorem zx8 {e:TypeId} {k:IntKind} (len z j ver off:Nat) (n:Int) (h2:(T e).size = 1):iaD T rw (.arr len e) (z + 1) (.ref j ver off) (.v (.int k n)) Kp = (0 ≤ n∧n < (len:Int)∧zda rw (.ref j ver off) (kk (Kp (.ref j ver (off + n.toNat))))):=by
 simp only [iaD,h2,Nat.mul_one,Nat.zero_lt_succ,Nat.one_pos,true_and,zkm,zdP,kk]
theorem zC1 [zae] {e:TypeId} {k:IntKind} (len z j ver off:Nat) (n:Int) (h2:(T e).size = 1):iaD T rw (.arr len e) (z + 1) (.ref j ver (off + 1)) (.v (.int k n)) Kp = (0 ≤ n∧n < (len:Int)∧zda rw (.ref j ver (off + 1)) (kk (Kp (.ref j ver (off + 1 + n.toNat))))):=zx8 _ _ _ _ _ _ h2
theorem zx9 [zae] {e:TypeId} {k:IntKind} (len z j ver:Nat) (n:Int) (h2:(T e).size = 1):iaD T rw (.arr len e) (z + 1) (.ref j ver 0) (.v (.int k n)) Kp = (0 ≤ n∧n < (len:Int)∧zda rw (.ref j ver 0) (kk (Kp (.ref j ver n.toNat)))):=by
 rw [zx8 _ _ _ _ _ _ h2,Nat.zero_add]
theorem zpp (j ver e:Nat) (c:List PV) (n:Int):zvr ⟨ver,.tab e c⟩ j ver n Kp = (0 ≤ n∧n < (c.length:Int)∧Kp (.ref j ver n.toNat)):=by simp [zvr]
theorem zpq (j ver e:Nat) (fz:Bool) (c:List PV) (n:Int):zvr ⟨ver,.sli e 1 fz c⟩ j ver n Kp = (0 ≤ n∧n < (c.length:Int)∧Kp (.ref j ver n.toNat)):=by simp [zvr]
theorem zeK {α:Type} (f:α→PV) (d:α) (xs:List α) {t:TypeId} {m:Md} (o:Nat) (g:α→PV) (hg:∀ x,m.fix (f x) = g x) (h0:(T t).k.agg = false) (h1:0 < (T t).size) :
 ldK T t m (xs.map f) o Kp = (o < xs.length∧Kp (g (xs.getD o d))):=by
 simp only [ldK,h0,h1,true_and,List.length_map]
 refine propext ⟨fun ⟨a,b⟩=>⟨a,?_⟩,fun ⟨a,b⟩=>⟨a,?_⟩⟩
 ·have e:(xs.map f).getD o .junk = f xs[o]:=by simp [List.getD,a]
  have e2:xs.getD o d = xs[o]:=by simp [List.getD,a]
  rw [e,hg] at b
  rw [e2]
  exact b
 ·have e:(xs.map f).getD o .junk = f xs[o]:=by simp [List.getD,a]
  have e2:xs.getD o d = xs[o]:=by simp [List.getD,a]
  rw [e,hg]
  rw [e2] at b
  exact b
theorem zvs (m:Md) (v:Value):m.fix (.v v) = .v v:=by cases m <;> rfl
theorem zC2 (fr f:Bool) (sz:Nat) (c:List PV):(Md.set fr).fix (.sl f sz c) = .sl fr sz c:=(rfl)
theorem ztL (p:PV):Md.asis.fix p = p:=(rfl)
theorem zF9 [zae] (xs:List Int) {t:TypeId} {m:Md} (o:Nat) (h0:(T t).k.agg = false) (h1:0 < (T t).size):ldK T t m (iL xs) o Kp = (o < xs.length∧Kp (.v (.int .i64 (xs.getD o 0)))) :=
 zeK _ 0 xs o _ (fun x=>zvs m _) h0 h1
theorem zGa [zae] (k:IntKind) (xs:List Int) {t:TypeId} {m:Md} (o:Nat) (h0:(T t).k.agg = false) (h1:0 < (T t).size):ldK T t m (kL k xs) o Kp = (o < xs.length∧Kp (.v (.int k (xs.getD o 0)))) :=
 zeK _ 0 xs o _ (fun x=>zvs m _) h0 h1
theorem zGb [zae] (xs:List Bool) {t:TypeId} {m:Md} (o:Nat) (h0:(T t).k.agg = false) (h1:0 < (T t).size):ldK T t m (bL xs) o Kp = (o < xs.length∧Kp (.v (.bool (xs.getD o false)))) :=
 zeK _ false xs o _ (fun x=>zvs m _) h0 h1
theorem zGc [zae] (xs:List ByteArray) {t:TypeId} {m:Md} (o:Nat) (h0:(T t).k.agg = false) (h1:0 < (T t).size):ldK T t m (sL xs) o Kp = (o < xs.length∧Kp (.v (.string (xs.getD o ⟨#[]⟩)))) :=
 zeK (fun n=>PV.v (.string n)) ⟨#[]⟩ xs o (fun n=>PV.v (.string n)) (fun x=>zvs m _) h0 h1
theorem zC3 [zae] (xs:List (List Int)) {t:TypeId} {fr:Bool} (o:Nat) (h0:(T t).k.agg = false) (h1:0 < (T t).size):ldK T t (.set fr) (iLL xs) o Kp = (o < xs.length∧Kp (.sl fr 1 (iL (xs.getD o [])))) :=
 zeK _ [] xs o (fun r=>.sl fr 1 (iL r)) (fun x=>rfl) h0 h1
theorem zGd {t:TypeId} {m:Md} (p:PV) (c:List PV) (h0:(T t).k.agg = false) (h1:0 < (T t).size):ldK T t m (p :: c) 0 Kp = evK (m.fix p) Kp:=by simp [ldK,h0,h1,evK]
theorem zGe {t:TypeId} {m:Md} (p q:PV) (c:List PV) (h0:(T t).k.agg = false) (h1:0 < (T t).size):ldK T t m (p :: q :: c) 1 Kp = evK (m.fix q) Kp:=by simp [ldK,h0,h1,evK]
theorem zGf {t:TypeId} {m:Md} (p q r:PV) (c:List PV) (h0:(T t).k.agg = false) (h1:0 < (T t).size):ldK T t m (p :: q :: r :: c) 2 Kp = evK (m.fix r) Kp:=by simp [ldK,h0,h1,evK]
theorem zGg {t:TypeId} {m:Md} (p q r s:PV) (c:List PV) (h0:(T t).k.agg = false) (h1:0 < (T t).size):ldK T t m (p :: q :: r :: s :: c) 3 Kp = evK (m.fix s) Kp:=by simp [ldK,h0,h1,evK]
theorem zya {t:TypeId} {m:Md} (p:PV) (c0:List PV) (o:Nat) (h0:(T t).k.agg = true) (h1:0 < (T t).size):ldK T t m (p :: c0) o Kp = (o + (T t).size ≤ (p :: c0).length∧evK (.ag ((((p :: c0).drop o).take (T t).size).map m.fix)) Kp):=by simp [ldK,h0,h1,evK]
def ztM (T:Tab) (kd:TK) (z:Nat) (f:Nat) (K:Nat→TypeId→Prop):Prop :=
 0 < z∧match kd with | .struct fs=>(match fs[f]? with | some (o,ft)=>0 < (T ft).size∧K o ft | none=>False) | _=>False
def zGh (T:Tab) (x:Option (Nat × TypeId)) (K:Nat→TypeId→Prop):Prop:=match x with | some (o,ft)=>0 < (T ft).size∧K o ft | none=>False
theorem ztN (t:TypeId) (f:Nat) (Kf:Nat→TypeId→Prop):zdp T t f Kf = ztM T (T t).k (T t).size f Kf:=(rfl)
theorem zeL (fs:List (Nat × TypeId)) (z f:Nat) (Kf:Nat→TypeId→Prop):ztM T (.struct fs) (z + 1) f Kf = zGh T fs[f]? Kf:=by simp only [ztM,zGh,Nat.zero_lt_succ,true_and]
theorem zpr (o:Nat) (ft:TypeId) (Kf:Nat→TypeId→Prop) (h:0 < (T ft).size):zGh T (some (o,ft)) Kf = Kf o ft:=by simp [zGh,h]
theorem zgA [zae] (fs:List (Nat × TypeId)) (f:Nat) (Kf:Nat→TypeId→Prop):ztM T (.struct fs) 2 f Kf = zGh T fs[f]? Kf:=zeL fs 1 f Kf
theorem zps (fr:Bool) (c:List PV) (o:Nat) (A:Prop):zda rw (.eref fr c o) (kk A) = A:=(rfl)
theorem ztO (f:FuncId) (c:List PV) (A:Prop):zda rw (.clo f c) (kk A) = A:=(rfl)
def zhn (r:Row) (ver:Nat) (A:Prop):Prop:=r.ver = ver∧r.kind.nd = true∧A
theorem ztP (j ver o:Nat) (A:Prop):zda rw (.ref j ver o) A = zhn (rw j) ver A:=(rfl)
theorem zjK (ver:Nat) (bt:TypeId) (c:List PV) (A:Prop):zhn ⟨ver,.box bt c⟩ ver (kk A) = A:=by simp [zhn,RK.nd,kk]
theorem zpt (j v o:Nat):zkm (.ref j v o) = true:=(rfl)
theorem zmi (fr:Bool) (c:List PV) (o:Nat):zkm (.eref fr c o) = true:=(rfl)
theorem zpu (j v o d:Nat):zdP (.ref j v o) d = .ref j v (o + d):=(rfl)
theorem zmj (fr:Bool) (c:List PV) (o d:Nat):zdP (.eref fr c o) d = .eref fr c (o + d):=(rfl)
def zDS (kd kd2:TK) (x:PV) (K:PV→Prop):Prop:=match kd,kd2,x with
 | .int _,.int k,.v (.int _ n)=>K (.v (.int k (k.wrap n)))
 | .str,.str,.v (.string s)=>K (.v (.string s))
 | _,_,_=>False
theorem ztQ {a b:TypeId} {k:IntKind} (n:Int) (h1:(T a).k.isInt = true) (h2:(T b).k.isInt = true) (h3:0 < (T a).size) (h4:0 < (T b).size):zfz T rw a b (.v (.int k n)) Kp = zDS (T a).k (T b).k (.v (.int k n)) Kp:=by
 revert h1 h2
 simp only [zfz,zDS,h3,h4,true_and]
 cases (T a).k <;> simp [TK.isInt]
 cases (T b).k <;> simp [TK.isInt]
theorem zpv (k1 k2 k:IntKind) (n:Int):zDS (.int k1) (.int k2) (.v (.int k n)) Kp = Kp (.v (.int k2 (k2.wrap n))):=(rfl)
theorem ztR {a b:TypeId} (n:ByteArray) (h1:(T a).k = .str) (h2:(T b).k = .str) (h3:0 < (T a).size) (h4:0 < (T b).size):zfz T rw a b (.v (.string n)) Kp = Kp (.v (.string n)):=by
 simp [zfz,h1,h2,h3,h4]
theorem zpw {t:TypeId} {k:IntKind} (b:ByteArray) (n:Int) (h0:(T t).k = .str) (h1:0 < (T t).size):ztg T t (.v (.string b)) (.v (.int k n)) Kp = (0 ≤ n∧n.toNat < b.size∧Kp (.v (.int .u8 ((b.data.toList.getD n.toNat 0).toNat:Int)))):=by
 simp [ztg,h0,h1]
theorem zmk (k k':IntKind) (a b:Int):zcu true (.v (.int k a)) (.v (.int k' b)) Kp = Kp (.v (.int k (if b > a then b else a))):=(rfl)
theorem zml (k k':IntKind) (a b:Int):zcu false (.v (.int k a)) (.v (.int k' b)) Kp = Kp (.v (.int k (if b < a then b else a))):=(rfl)
def zrt (p:PV) (K:Int→Prop):Prop:=match p with | .v (.int _ n)=>K n | _=>False
theorem ztS (k:IntKind) (n:Int) (Ki:Int→Prop):zrt (.v (.int k n)) Ki = Ki n:=(rfl)
def znp (T:Tab) (rw:Nat→Row) (ev:Operand→PV) (kd:TK) (z:Nat) (x:PV) (lo hi mx:Option Operand) (K:PV→Prop):Prop :=
 0 < z∧match kd with
 | .str=>mx = none∧(match x with
  | .v (.string s)=>zk7 ev lo 0 fun l=>zk7 ev hi s.size fun h=>0 ≤ l∧l ≤ h∧h ≤ s.size∧K (.v (.string (s.extract l.toNat h.toNat)))
  | _=>False)
 | .sli e=>zfY rw x fun fr sz c=>0 < (T e).size∧sz = (T e).size ∧
  zk7 ev lo 0 fun l=>zk7 ev hi ((c.length / sz:Nat):Int) fun h=>zk7 ev mx ((c.length / sz:Nat):Int) fun m=>0 ≤ l∧l ≤ h∧h ≤ m∧m ≤ ((c.length / sz:Nat):Int)∧(hi = none→mx = none) ∧
   K (.sl fr sz ((c.take (h.toNat * sz)).drop (l.toNat * sz)))
 | _=>False
theorem zC4 (t:TypeId) (ev:Operand→PV) (x:PV) (lo hi mx:Option Operand):zbr T rw ev t x lo hi mx Kp = znp T rw ev (T t).k (T t).size x lo hi mx Kp:=(rfl)
theorem ztT {e:TypeId} (fr:Bool) (c:List PV) (x:Operand) (h2:(T e).size = 1):znp T rw s.ev (.sli e) 1 (.sl fr 1 c) (some x) none none Kp = zrt (s.ev x) (kk fun l=>0 ≤ l∧l ≤ (c.length:Int)∧Kp (.sl fr 1 (c.drop l.toNat))):=by
 simp only [znp,zfY,zk7,h2,zrt,kk]
 cases s.ev x <;> simp
 rename_i v
 cases v <;> simp
theorem ztU {e:TypeId} (fr:Bool) (c:List PV) (x:Operand) (h2:(T e).size = 1):znp T rw s.ev (.sli e) 1 (.sl fr 1 c) none (some x) none Kp = zrt (s.ev x) (kk fun l=>0 ≤ l∧l ≤ (c.length:Int)∧Kp (.sl fr 1 (c.take l.toNat))):=by
 simp only [znp,zfY,zk7,h2,zrt,kk]
 cases s.ev x <;> simp
 rename_i v
 cases v <;> simp
theorem ztV {e:TypeId} (fr:Bool) (c:List PV) (x y:Operand) (h2:(T e).size = 1):znp T rw s.ev (.sli e) 1 (.sl fr 1 c) (some x) (some y) none Kp = zrt (s.ev x) (kk fun l=>zrt (s.ev y) (kk fun h=>0 ≤ l∧l ≤ h∧h ≤ (c.length:Int)∧Kp (.sl fr 1 ((c.take h.toNat).drop l.toNat)))):=by
 simp only [znp,zfY,zk7,h2,zrt,kk]
 cases s.ev x <;> simp
 rename_i v
 cases v <;> simp
 rename_i q n
 cases s.ev y <;> try simp
 rename_i v
 cases v <;> try simp
theorem zyb {e:TypeId} (fr:Bool) (c:List PV) (h2:(T e).size = 1):znp T rw s.ev (.sli e) 1 (.sl fr 1 c) none none none Kp = Kp (.sl fr 1 c):=by
 simp only [znp,zfY,zk7,h2]
 simp
theorem ztW (b:ByteArray) (x:Operand):znp T rw s.ev .str 1 (.v (.string b)) (some x) none none Kp = zrt (s.ev x) (kk fun l=>0 ≤ l∧l ≤ (b.size:Int)∧Kp (.v (.string (b.extract l.toNat b.size)))):=by
 simp only [znp,zk7,zrt,kk]
 cases s.ev x <;> simp
 rename_i v
 cases v <;> simp
theorem ztX (b:ByteArray) (x:Operand):znp T rw s.ev .str 1 (.v (.string b)) none (some x) none Kp = zrt (s.ev x) (kk fun h=>0 ≤ h∧h ≤ (b.size:Int)∧Kp (.v (.string (b.extract 0 h.toNat)))):=by
 simp only [znp,zk7,zrt,kk]
 cases s.ev x <;> simp
 rename_i v
 cases v <;> simp
theorem ztY (b:ByteArray) (x y:Operand):znp T rw s.ev .str 1 (.v (.string b)) (some x) (some y) none Kp = zrt (s.ev x) (kk fun l=>zrt (s.ev y) (kk fun h=>0 ≤ l∧l ≤ h∧h ≤ (b.size:Int)∧Kp (.v (.string (b.extract l.toNat h.toNat))))):=by
 simp only [znp,zk7,zrt,kk]
 cases s.ev x <;> simp
 rename_i v
 cases v <;> simp
 rename_i q n
 cases s.ev y <;> try simp
 rename_i v
 cases v <;> try simp
def ztZ (T:Tab) (r:Row) (k ver:Nat) (ev:Operand→PV) (e z:Nat) (rw:Nat→Row) (lo hi mx:Option Operand) (K:PV→Prop):Prop :=
 k < 1000000∧r.ver = ver∧match r.kind with | .sli _ sz true c=>znp T rw ev (.sli e) z (.sl true sz c) lo hi mx K | _=>False
theorem zyc (e z k ver:Nat) (lo hi mx:Option Operand):znp T rw s.ev (.sli e) z (.own k ver) lo hi mx Kp = ztZ T (rw k) k ver s.ev e z rw lo hi mx Kp:=by
 have el:(k < lent) = (k < 1000000):=rfl
 simp only [znp,zfY,ztZ,el]
 cases (rw k).kind with
 | sli e' sz fz c =>
   cases fz <;> simp
   refine ⟨fun ⟨a,b,c,d,h⟩=>⟨b,c,a,d,h⟩,fun ⟨b,c,a,d,h⟩=>⟨a,b,c,d,h⟩⟩
 | _=>simp
theorem zmm (e z k ver e' sz:Nat) (rw':Nat→Row) (c:List PV) (lo hi mx:Option Operand):ztZ T ⟨ver,.sli e' sz true c⟩ k ver s.ev e z rw' lo hi mx Kp = (k < 1000000∧znp T rw' s.ev (.sli e) z (.sl true sz c) lo hi mx Kp):=by simp [ztZ]
theorem zyd {Kf:List Nat→PV→Prop} (t:TypeId) (fr:Bool) (z:Nat) (c:List PV) (lo hi mx:Option Operand):zFg T s t (.sl fr z c) lo hi mx (kk Kf) = zbr T s.rw s.ev t (.sl fr z c) lo hi mx (kk fun p=>Kf [] p):=(rfl)
theorem zC5 {Kf:List Nat→PV→Prop} (t:TypeId) (x:Value) (lo hi mx:Option Operand):zFg T s t (.v x) lo hi mx (kk Kf) = zbr T s.rw s.ev t (.v x) lo hi mx (kk fun p=>Kf [] p):=(rfl)
def zye (T:Tab) (s:St) (t:TypeId) (r:Row) (k ver:Nat) (lo hi mx:Option Operand) (K:List Nat→PV→Prop):Prop :=
 match r.kind with
 | .sli _ _ false _=>zbr T (s.freeze [k]).rw s.ev t (.own k ver) lo hi mx (kk fun p=>K [k] p)
 | _=>zbr T s.rw s.ev t (.own k ver) lo hi mx (kk fun p=>K [] p)
theorem zt0 {Kf:List Nat→PV→Prop} (t:TypeId) (k ver:Nat) (lo hi mx:Option Operand):zFg T s t (.own k ver) lo hi mx (kk Kf) = zye T s t (s.rw k) k ver lo hi mx (kk Kf):=(rfl)
theorem zjL {Kf:List Nat→PV→Prop} (t:TypeId) (v e z:Nat) (c:List PV) (k ver:Nat) (lo hi mx:Option Operand):zye T s t ⟨v,.sli e z false c⟩ k ver lo hi mx (kk Kf) = zbr T (s.freeze [k]).rw s.ev t (.own k ver) lo hi mx (kk fun p=>Kf [k] p):=(rfl)
theorem zpx {Kf:List Nat→PV→Prop} (t:TypeId) (v e z:Nat) (c:List PV) (k ver:Nat) (lo hi mx:Option Operand):zye T s t ⟨v,.sli e z true c⟩ k ver lo hi mx (kk Kf) = zbr T s.rw s.ev t (.own k ver) lo hi mx (kk fun p=>Kf [] p):=(rfl)
theorem zyf {Kc:List PV→Prop} (x:Value) (h:x.oneCell' = true):zaT rw (.v x) Kc = Kc [.v x]:=by simp [zaT,h]
theorem znq {Kc:List PV→Prop} (c:List PV):zaT rw (.ag c) Kc = Kc c:=(rfl)
theorem zt1 {Kc:List PV→Prop} (fr:Bool) (sz:Nat) (c:List PV):zaT rw (.sl fr sz c) Kc = Kc [.sl fr sz c]:=(rfl)
theorem zpy {Kc:List PV→Prop} (f:FuncId) (c:List PV):zaT rw (.clo f c) Kc = Kc [.clo f c]:=(rfl)
def zgB (r:Row) (ver:Nat) (A:Prop):Prop:=r.ver = ver∧r.kind.slice = true∧A
theorem zpz {Kc:List PV→Prop} (j ver:Nat):zaT rw (.own j ver) Kc = zgB (rw j) ver (kk (Kc [.own j ver])):=(rfl)
theorem zmn (ver e sz:Nat) (fz:Bool) (c:List PV) (A:Prop):zgB ⟨ver,.sli e sz fz c⟩ ver (kk A) = A:=by simp [zgB,RK.slice,kk]
theorem zmo (ver e:Nat) (c:List PV) (A:Prop):zgB ⟨ver,.tab e c⟩ ver (kk A) = A:=by simp [zgB,RK.slice,kk]
theorem zpA {Kc:List PV→Prop} (j ver o:Nat):zaT rw (.ref j ver o) Kc = zhn (rw j) ver (kk (Kc [.ref j ver o])):=(rfl)
theorem zC6 {Kc:List PV→List Nat→Prop} (x:Value) (h:x.oneCell' = true):zcJ rw (.v x) Kc = Kc [.v x] []:=by simp [zcJ,h]
theorem zyg {Kc:List PV→List Nat→Prop} (sz:Nat) (c:List PV):zcJ rw (.sl true sz c) Kc = Kc [.sl false sz c] []:=by simp [zcJ]
theorem zyh {Kc:List PV→List Nat→Prop} (c:List PV):zcJ rw (.ag c) Kc = ((∀ x ∈ c,isV x = true)∧Kc c []):=(rfl)
def zru (r:Row) (k ver:Nat) (K:List PV→List Nat→Prop):Prop:=r.ver = ver∧k < lent∧(match r.kind with | .nil=>K [.sl false 1 []] [] | .sli _ sz _ c=>K [.sl false sz c] [k] | _=>False)
theorem zt2 {Kc:List PV→List Nat→Prop} (j ver:Nat):zcJ rw (.own j ver) Kc = zru (rw j) j ver Kc:=(rfl)
theorem zjM {Kc:List PV→List Nat→Prop} (j ver e sz:Nat) (fz:Bool) (c:List PV) (h:j < lent):zru ⟨ver,.sli e sz fz c⟩ j ver Kc = Kc [.sl false sz c] [j]:=by simp [zru,h]
def allP (rw:Nat→Row) (l:List PV):Prop:=∀ p ∈ l,zih rw p
theorem zyi (rw:Nat→Row) (l:List PV):(∀ p ∈ l,zih rw p) = allP rw l:=(rfl)
theorem zt3 (rw:Nat→Row):allP rw [] = True:=by simp [allP]
theorem zpB (rw:Nat→Row) (p:PV) (l:List PV):allP rw (p :: l) = (zih rw p∧allP rw l):=by simp [allP]
def zes (s:St) (z j ver off:Nat) (r:Row) (x:PV) (K:St→Prop):Prop:=0 < z∧r.ver = ver∧match r.kind with
 | .box bt c=>zaT s.rw x fun new=>new.length = z∧off + new.length ≤ c.length∧allP s.rw new∧K (s.row j ⟨ver,.box bt (spl c off new)⟩)
 | .sli e sz false c=>zcJ s.rw x fun new fz=>new.length = z∧off + new.length ≤ c.length∧j ∉ fz∧K ((s.freeze fz).row j ⟨ver,.sli e sz false (spl c off new)⟩)
 | .tab e c=>zaT s.rw x fun new=>new.length = z∧off + new.length ≤ c.length∧allP s.rw new∧K (s.row j ⟨ver,.tab e (spl c off new)⟩)
 | _=>False
theorem zpC (j ver off e:Nat) (c:List PV) (x:PV):zes s 1 j ver off ⟨ver,.tab e c⟩ x K = zaT s.rw x (kk fun new=>new.length = 1∧off + new.length ≤ c.length∧allP s.rw new∧K (s.row j ⟨ver,.tab e (spl c off new)⟩)):=by
 simp only [zes,Nat.one_pos,true_and,kk]
theorem zt4 (t:TypeId) (j ver off:Nat) (x:PV):zqs T s t (.ref j ver off) x K = zes s (T t).size j ver off (s.rw j) x K:=(rfl)
theorem zjN [zae]:s.freeze [] = s:=St.freeze_nil s
theorem zpD (j ver off e sz:Nat) (c:List PV) (x:PV):zes s 1 j ver off ⟨ver,.sli e sz false c⟩ x K = zcJ s.rw x (kk fun new fz=>new.length = 1∧off + new.length ≤ c.length∧j ∉ fz∧K ((s.freeze fz).row j ⟨ver,.sli e sz false (spl c off new)⟩)):=by
 simp only [zes,Nat.one_pos,true_and,kk]
theorem zeM (z j ver off:Nat) (bt:TypeId) (c:List PV) (x:PV):zes s (z + 1) j ver off ⟨ver,.box bt c⟩ x K = zaT s.rw x (kk fun new=>new.length = z + 1∧off + new.length ≤ c.length∧allP s.rw new∧K (s.row j ⟨ver,.box bt (spl c off new)⟩)):=by
 simp only [zes,Nat.zero_lt_succ,true_and,kk]
theorem zmp [zae] (j ver off:Nat) (bt:TypeId) (c:List PV) (x:PV):zes s 1 j ver off ⟨ver,.box bt c⟩ x K = zaT s.rw x (kk fun new=>new.length = 1∧off + new.length ≤ c.length∧allP s.rw new∧K (s.row j ⟨ver,.box bt (spl c off new)⟩)):=zeM 0 j ver off bt c x
theorem zmq [zae] (j ver off:Nat) (bt:TypeId) (c:List PV) (x:PV):zes s 2 j ver off ⟨ver,.box bt c⟩ x K = zaT s.rw x (kk fun new=>new.length = 2∧off + new.length ≤ c.length∧allP s.rw new∧K (s.row j ⟨ver,.box bt (spl c off new)⟩)):=zeM 1 j ver off bt c x
theorem zC7 (rw:Nat→Row) (v:Value):zih rw (.v v) = (v.oneCell' = true):=(rfl)
theorem zyj (rw:Nat→Row) (fr:Bool) (z:Nat) (c:List PV):zih rw (.sl fr z c) = True:=(rfl)
theorem zpE (rw:Nat→Row) (fr:Bool) (c:List PV) (o:Nat):zih rw (.eref fr c o) = True:=(rfl)
theorem zt5 (rw:Nat→Row) (f:FuncId) (c:List PV):zih rw (.clo f c) = True:=(rfl)
theorem znr (rw:Nat→Row) (j v:Nat):zih rw (.own j v) = zgB (rw j) v (kk True):=by simp [zih,zgB,kk]
theorem zt6 (rw:Nat→Row) (j v o:Nat):zih rw (.ref j v o) = zhn (rw j) v (kk True):=by simp [zih,zhn,kk]
theorem zmr [zae] (j ver off:Nat) (bt:TypeId) (c:List PV) (x:PV):zes s 3 j ver off ⟨ver,.box bt c⟩ x K = zaT s.rw x (kk fun new=>new.length = 3∧off + new.length ≤ c.length∧allP s.rw new∧K (s.row j ⟨ver,.box bt (spl c off new)⟩)):=zeM 2 j ver off bt c x
theorem zms [zae] (j ver off:Nat) (bt:TypeId) (c:List PV) (x:PV):zes s 4 j ver off ⟨ver,.box bt c⟩ x K = zaT s.rw x (kk fun new=>new.length = 4∧off + new.length ≤ c.length∧allP s.rw new∧K (s.row j ⟨ver,.box bt (spl c off new)⟩)):=zeM 3 j ver off bt c x
def zjO (T:Tab) (rw:Nat→Row) (y:PV) (K:List PV→Prop):Prop:=slK rw y fun fr sz news=>sz = 1∧((∀ p ∈ news,isV p = true) ∨ (fr = true∧∀ p ∈ news,zrj p = true))∧K news
def zjP (T:Tab) (s:St) (d j ver e:Nat) (r:Row) (news:List PV) (K:St→Prop):Prop:=r.ver = ver∧match r.kind with
 | .nil=>news.length * (T e).bytes ≤ 140737488355328∧K (zcU s d j (.sli e 1 false news))
 | .sli e' sz' false c=>e' = e∧sz' = 1∧(c.length + news.length) * (T e).bytes ≤ 140737488355328∧K (zcU s d j (.sli e 1 false (c ++ news)))
 | _=>False
def zGi (T:Tab) (s:St) (d e:Nat) (x:PV) (news:List PV) (K:St→Prop):Prop:=match x with
 | .v u=>zdz u = true∧news.length * (T e).bytes ≤ 140737488355328∧K (zcq s d (.sli e 1 false news) (fun v=>.own d v))
 | .own j ver=>zjP T s d j ver e (s.rw j) news K
 | _=>False
def zHD (T:Tab) (s:St) (d:Nat) (kd:TK) (z:Nat) (x y:PV) (K:St→Prop):Prop :=
 0 < z∧match kd with
 | .sli e=>0 < (T e).size∧0 < (T e).bytes∧slK s.rw y fun fr sz news=>sz = (T e).size∧((∀ p ∈ news,isV p = true) ∨ (fr = true∧∀ p ∈ news,zrj p = true)) ∧
  (match x with
  | .v u=>zdz u = true∧news.length * (T e).bytes ≤ 140737488355328∧K (zcq s d (.sli e (T e).size false news) (fun v=>.own d v))
  | .own k ver=>(s.rw k).ver = ver∧(match (s.rw k).kind with
   | .nil=>news.length * (T e).bytes ≤ 140737488355328∧K (zcU s d k (.sli e (T e).size false news))
   | .sli e' sz' false c=>e' = e∧sz' = (T e).size∧(c.length + news.length) * (T e).bytes ≤ 140737488355328∧K (zcU s d k (.sli e (T e).size false (c ++ news)))
   | _=>False)
  | _=>False)
 | _=>False
theorem zpF (d:Nat) (t:TypeId) (x y:PV):zkf T s d t t x y K = zHD T s d (T t).k (T t).size x y K:=propext ⟨fun h=>h.2,fun h=>⟨rfl,h⟩⟩
theorem zt7 {d e:Nat} (x y:PV) (h2:(T e).size = 1) (h3:0 < (T e).bytes):zHD T s d (.sli e) 1 x y K = zjO T s.rw y (kk fun news=>zGi T s d e x news (kk K)):=by
 unfold zHD zjO
 simp only [h2,h3,true_and,kk,Nat.one_pos]
 unfold zGi zjP
 cases x <;> rfl
theorem zt8 (d e j ver:Nat) (news:List PV):zGi T s d e (.own j ver) news K = zjP T s d j ver e (s.rw j) news K:=(rfl)
theorem zt9 (d e:Nat) (news:List PV):zGi T s d e (.v (.slice none 0 0)) news K = (news.length * (T e).bytes ≤ 140737488355328∧K (zcq s d (.sli e 1 false news) (fun v=>.own d v))):=by simp [zGi,zdz]
theorem zmt (d j ver e:Nat) (c news:List PV):zjP T s d j ver e ⟨ver,.sli e 1 false c⟩ news K = ((c.length + news.length) * (T e).bytes ≤ 140737488355328∧K (zcU s d j (.sli e 1 false (c ++ news)))):=by simp [zjP]
theorem zmu (d j ver e:Nat) (news:List PV):zjP T s d j ver e ⟨ver,.nil⟩ news K = (news.length * (T e).bytes ≤ 140737488355328∧K (zcU s d j (.sli e 1 false news))):=by simp [zjP]
variable {Kc:List PV→Prop}
theorem zyk (c:List PV) (h:∀ p ∈ c,isV p = true) (fr:Bool):zjO T rw (.sl fr 1 c) Kc = Kc c:=by
 have e:(∀ p ∈ c,isV p = true) = True:=eq_true h
 simp only [zjO,slK,e,true_or,true_and]
theorem zyl [zae] (xs:List Int) (fr:Bool):zjO T rw (.sl fr 1 (iL xs)) Kc = Kc (iL xs):=zyk _ (by simpa using zwQ xs) fr
theorem zym [zae] (k:IntKind) (xs:List Int) (fr:Bool):zjO T rw (.sl fr 1 (kL k xs)) Kc = Kc (kL k xs):=zyk _ (by simpa using zFO k xs) fr
theorem zyn [zae] (xs:List ByteArray) (fr:Bool):zjO T rw (.sl fr 1 (sL xs)) Kc = Kc (sL xs):=zyk _ (by simpa using zCs xs) fr
theorem zua [zae] (xs:List (List Int)):zjO T rw (.sl true 1 (iLL xs)) Kc = Kc (iLL xs):=by
 have:∀ p ∈ iLL xs,zrj p = true:=by simpa using zAX xs
 simp only [zjO,slK,true_and,true_or,eq_true this,or_true]
def zvt (c:List PV):Prop:=∀ p ∈ c,zrj p = true
def zvu (r:Row) (ver:Nat) (K:List PV→Prop):Prop:=r.ver = ver∧match r.kind with | .nil=>K [] | .sli _ sz _ c=>sz = 1∧zvt c∧K c | _=>False
theorem zpG (j ver:Nat):zjO T rw (.own j ver) Kc = zvu (rw j) ver Kc:=by
 unfold zjO slK zvu
 dsimp only
 generalize (rw j).kind = kd
 cases kd with
 | sli e sz fz c =>
   dsimp only
   refine propext ⟨fun ⟨a,b,h,d⟩=>⟨a,b,?_,d⟩,fun ⟨a,b,h,d⟩=>⟨a,b,.inr ⟨rfl,h⟩,d⟩⟩
   rcases h with h | h
   ·intro p hp
    have:=h p hp
    cases p <;> simp [isV] at this
    exact this
   ·exact h.2
 | nil=>simp
 | _=>simp
theorem zpH (ver e:Nat) (fz:Bool) (c:List PV):zvu ⟨ver,.sli e 1 fz c⟩ ver Kc = (zvt c∧Kc c):=by simp [zvu]
theorem zpI (ver:Nat):zvu ⟨ver,.nil⟩ ver Kc = Kc []:=by simp [zvu]
theorem zub:zvt [] = True:=by simp [zvt]
theorem zyo (xs:List Int):zvt (iL xs) = True:=by simp [zvt,iL,zrj,Value.oneCell']
theorem zyp (k:IntKind) (xs:List Int):zvt (kL k xs) = True:=by simp [zvt,kL,zrj,Value.oneCell']
theorem zyq (xs:List ByteArray):zvt (sL xs) = True:=by simp [zvt,sL,zrj,Value.oneCell']
theorem zyr (xs:List Bool):zvt (bL xs) = True:=eq_true fun p hp=>by
 simp only [bL,List.mem_map] at hp
 obtain ⟨x,_,rfl⟩:=hp
 rfl
theorem zuc (xs:List (List Int)):zvt (iLL xs) = True:=by simp [zvt,iLL,zrj]
theorem zpJ (j:Nat):[j].Nodup = True:=by simp
theorem zpK (i j:Nat):[i,j].Nodup = (i ≠ j):=by simp
theorem zys (j:Nat):(j < lent) = (j < 1000000):=(rfl)
theorem zGj (v u:Value) {Kn:List Nat→Prop}:zqa rw (.v v) (.im (.v u)) Kn = (PV.v u = PV.v v∧Kn []):=(rfl)
def zpL (r:Row) (j ver e sz:Nat) (c:List PV) (K:List Nat→Prop):Prop:=j < lent∧r.ver = ver∧(match r.kind with
 | .nil=>c = []∧K []
 | .sli e' sz' false c'=>e' = e∧sz' = sz∧c' = c∧K [j]
 | _=>False)
theorem zyt (j ver e sz:Nat) (c:List PV) {Kn:List Nat→Prop}:zqa rw (.own j ver) (.fr e sz c) Kn = zpL (rw j) j ver e sz c Kn:=(rfl)
theorem zho (j ver e sz:Nat) (c c':List PV) {Kn:List Nat→Prop} (h:j < lent):zpL ⟨ver,.sli e sz false c'⟩ j ver e sz c Kn = (c' = c∧Kn [j]):=by simp [zpL,h]
theorem zud {t:Nat} {rv:RV}:zvv T s [.tmp t] rv = zqa s.rw (s.sl t) rv List.Nodup:=(rfl)
theorem zpM {a:Nat} {t:TypeId} {rv:RV}:zvv T s [.cell a t] rv = zrk s.rw (s.sl a) (kk fun m c off=>ldK T t m c off (kk fun p=>zqa s.rw p rv List.Nodup)):=(rfl)
theorem zue {r1 r2:ResultVar} {rv:RV}:zvv T s [r1,r2] rv = zyD T s [r1,r2] (kk fun ps=>zqa s.rw (.tup ps) rv List.Nodup):=(rfl)
theorem zmv {r1 r2 r3:ResultVar} {rv:RV}:zvv T s [r1,r2,r3] rv = zyD T s [r1,r2,r3] (kk fun ps=>zqa s.rw (.tup ps) rv List.Nodup):=(rfl)
theorem zuf (Kr:List PV→Prop):zyD T s [] (kk Kr) = Kr []:=(rfl)
theorem zug (t:Nat) (rs:List ResultVar) (Kr:List PV→Prop):zyD T s (.tmp t :: rs) (kk Kr) = evK (s.sl t) (kk fun p=>zyD T s rs (kk fun ps=>Kr (p :: ps))):=(rfl)
theorem zpN (a:Nat) (t:TypeId) (rs:List ResultVar) (Kr:List PV→Prop):zyD T s (.cell a t :: rs) (kk Kr) = zrk s.rw (s.sl a) (kk fun m c off=>ldK T t m c off (kk fun p=>zyD T s rs (kk fun ps=>Kr (p :: ps)))):=(rfl)
theorem zuh (e sz:Nat) (c:List PV) {Kn:List Nat→Prop}:zqa rw (.v (.slice none 0 0)) (.fr e sz c) Kn = (c = []∧Kn []):=by simp [zqa,zld,zdz]
theorem zui (e sz:Nat) (c:List PV) {Kn:List Nat→Prop}:zyE rw (.v (.slice none 0 0)) (.fr e sz c) Kn = (c = []∧Kn []):=by simp [zyE,zld,zdz]
theorem zuj (e sz:Nat) (c:List PV) {Kn:List Nat→Prop}:zld rw (.v (.slice none 0 0)) (.fr e sz c) Kn = (c = []∧Kn []):=by simp [zld,zdz]
theorem zmw [zae] (d e sz:Nat) (y:Value) (c:List PV):zak s d (.tup [.ag [.fr e sz c],.im (.v y)]) = (s.row d ⟨(s.rw d).ver + 1,.sli e sz false c⟩).put (some d) (.tup [.ag [.own d ((s.rw d).ver + 1)],.v y]):=by
 unfold zak
 simp [zbH,zco,zag,zau,zaS,zce,zbK,zbv,zaj,St.row,zgO]
 rfl
theorem zmx [zae] (d e sz:Nat) (x y:Value) (c:List PV):zak s d (.tup [.ag [.im (.v x),.fr e sz c],.im (.v y)]) = (s.row d ⟨(s.rw d).ver + 1,.sli e sz false c⟩).put (some d) (.tup [.ag [.v x,.own d ((s.rw d).ver + 1)],.v y]):=by
 unfold zak
 simp [zbH,zco,zag,zau,zaS,zce,zbK,zbv,zaj,St.row,zgO]
 rfl
theorem zpO [zae] (d e sz:Nat) (y:Value) (c:List PV):zak s d (.tup [.ag [.fr e sz c],.im (.v y)]) = (s.row d ⟨(s.rw d).ver + 1,.sli e sz false c⟩).put (some d) (.tup [.ag [.own d ((s.rw d).ver + 1)],.v y]):=by
 unfold zak
 simp [zbH,zco,zag,zau,zaS,zce,zbK,zbv,zaj,St.row,zgO]
 rfl
theorem zgC (d:Nat) (v:Value):zak s d (.im (.v v)) = s.put (some d) (.v v):=by
 unfold zak
 simp [zag,zau,zaS,zbK,zgO]
theorem ziQ (d e sz:Nat) (c:List PV):zak s d (.fr e sz c) = (s.row d ⟨(s.rw d).ver + 1,.sli e sz false c⟩).put (some d) (.own d ((s.rw d).ver + 1)):=by
 unfold zak
 simp [zag,zau,zaS,zbK,zaj,St.row]
 rfl
theorem zpP [zae] (d e sz:Nat) (c:List PV):zak s d (.ag [.fr e sz c]) = (s.row d ⟨(s.rw d).ver + 1,.sli e sz false c⟩).put (some d) (.ag [.own d ((s.rw d).ver + 1)]):=by
 unfold zak
 simp [zco,zag,zau,zaS,zce,zbv,zbK,zaj,St.row]
 rfl
theorem zpQ [zae] (d e sz:Nat) (x:Value) (c:List PV):zak s d (.ag [.im (.v x),.fr e sz c]) = (s.row d ⟨(s.rw d).ver + 1,.sli e sz false c⟩).put (some d) (.ag [.v x,.own d ((s.rw d).ver + 1)]):=by
 unfold zak
 simp [zco,zag,zau,zaS,zce,zbv,zbK,zaj,St.row,zgO]
 rfl
theorem zpR [zae] (d e sz e2 sz2:Nat) (x y:Value) (c c2:List PV):zak s d (.ag [.im (.v x),.fr e sz c,.im (.v y),.fr e2 sz2 c2]) =
 ((s.row (d + 1000) ⟨(s.rw (d + 1000)).ver + 1,.sli e2 sz2 false c2⟩).row d ⟨(s.rw d).ver + 1,.sli e sz false c⟩).put (some d) (.ag [.v x,.own d ((s.rw d).ver + 1),.v y,.own (d + 1000) ((s.rw (d + 1000)).ver + 1)]):=by
 unfold zak
 simp [zco,zag,zau,zaS,zce,zbv,zbK,zaj,St.row,zgO]
 rfl
theorem zpS [zae] (d:Nat) (x y:Value):zak s d (.tup [.im (.v x),.im (.v y)]) = s.put (some d) (.tup [.v x,.v y]):=by
 unfold zak
 simp [zbH,zag,zau,zaS,zce,zbv,zbK,zaj,St.row,zgO]
theorem zpT [zae] (d e sz:Nat) (c:List PV) (y:Value):zak s d (.tup [.fr e sz c,.im (.v y)]) = (s.row d ⟨(s.rw d).ver + 1,.sli e sz false c⟩).put (some d) (.tup [.own d ((s.rw d).ver + 1),.v y]):=by
 unfold zak
 simp [zbH,zag,zau,zaS,zce,zbv,zbK,zaj,St.row,zgO]
 rfl
theorem imm_ag [zae] (l:List RV):(RV.ag l).imm = .ag (l.map RV.imm):=RV.imm_ag l
theorem imm_tup [zae] (l:List RV):(RV.tup l).imm = .tup (l.map RV.imm):=RV.imm_tup l
theorem zyu (ps:List PV) (l:List RV) {Kn:List Nat→Prop}:zqa rw (.ag ps) (.ag l) Kn = zwA (zyE rw) ps l Kn:=(rfl)
theorem zuk (ps:List PV) (l:List RV) {Kn:List Nat→Prop}:zqa rw (.tup ps) (.tup l) Kn = zwA (zyE rw) ps l Kn:=(rfl)
theorem zyv (ps:List PV) (l:List RV) {Kn:List Nat→Prop}:zyE rw (.ag ps) (.ag l) Kn = zwA (zld rw) ps l Kn:=(rfl)
theorem zul (f:PV→RV→(List Nat→Prop)→Prop) {Kn:List Nat→Prop}:zwA f [] [] Kn = Kn []:=(rfl)
theorem zpU (f:PV→RV→(List Nat→Prop)→Prop) (p:PV) (ps:List PV) (r:RV) (rs:List RV) {Kn:List Nat→Prop}:zwA f (p :: ps) (r :: rs) Kn = f p r (kk fun a=>zwA f ps rs (kk fun b=>Kn (a ++ b))):=(rfl)
theorem zC8 (v u:Value) {Kn:List Nat→Prop}:zyE rw (.v v) (.im (.v u)) Kn = (PV.v u = PV.v v∧Kn []):=(rfl)
theorem zmy (e e2:Nat) (rows:List (List PV)) {Kn:List Nat→Prop}:zld rw (.v (.slice none 0 0)) (.tb e e2 rows) (kk Kn) = (rows = []∧Kn []):=by simp [zld,zdz,kk]
theorem zC9 (v u:Value) {Kn:List Nat→Prop}:zld rw (.v v) (.im (.v u)) Kn = (PV.v u = PV.v v∧Kn []):=(rfl)
theorem zum (j ver e sz:Nat) (c:List PV) {Kn:List Nat→Prop}:zyE rw (.own j ver) (.fr e sz c) Kn = zpL (rw j) j ver e sz c Kn:=(rfl)
theorem zun (j ver e sz:Nat) (c:List PV) {Kn:List Nat→Prop}:zld rw (.own j ver) (.fr e sz c) Kn = zpL (rw j) j ver e sz c Kn:=(rfl)
theorem zDa (v:Value):(RV.im (.v v)).imm = .v v:=by simp [RV.imm,zgO]
theorem zDb (e sz:Nat) (c:List PV):(RV.fr e sz c).imm = .sl true sz c:=by simp [RV.imm]
theorem zuo (rw:Nat→Row) (n:Nat) (k:IntKind) (x:Int):zck rw (n + 1) (.v (.int k x)) = .v (.int k x):=(rfl)
theorem zpV (rw:Nat→Row) (n:Nat) (x:Bool):zck rw (n + 1) (.v (.bool x)) = .v (.bool x):=(rfl)
theorem zjQ (rw:Nat→Row) (n:Nat) (x:ByteArray):zck rw (n + 1) (.v (.string x)) = .v (.string x):=(rfl)
theorem zup (rw:Nat→Row) (n:Nat):zck rw (n + 1) (.v (.slice none 0 0)) = .sl false 1 []:=(rfl)
theorem zyw (rw:Nat→Row) (n:Nat) (fr:Bool) (sz:Nat) (c:List PV):zck rw (n + 1) (.sl fr sz c) = .sl false sz c:=(rfl)
theorem zyx (rw:Nat→Row) (n:Nat) (c:List PV):zck rw (n + 1) (.ag c) = .ag (c.map (zck rw n)):=(rfl)
theorem zpW (rw:Nat→Row) (n:Nat) (fr:Bool) (c:List PV) (o:Nat):zck rw (n + 1) (.eref fr c o) = .eref false c o:=(rfl)
def zjR (rw:Nat→Row) (n:Nat) (r:Row) (ver off:Nat):PV:=if r.ver = ver then (match r.kind with | .box _ c=>.eref false (c.map (zck rw n)) off | .sli _ _ _ c=>.eref false c off | _=>.junk) else .junk
theorem zuq (rw:Nat→Row) (n j ver off:Nat):zck rw (n + 1) (.ref j ver off) = zjR rw n (rw j) ver off:=(rfl)
theorem zjS (rw:Nat→Row) (n ver off:Nat) (t:TypeId) (c:List PV):zjR rw n ⟨ver,.box t c⟩ ver off = .eref false (c.map (zck rw n)) off:=by simp [zjR]
theorem zjT (rw:Nat→Row) (n ver off e z:Nat) (fz:Bool) (c:List PV):zjR rw n ⟨ver,.sli e z fz c⟩ ver off = .eref false c off:=by simp [zjR]
theorem zur (rw:Nat→Row) (n:Nat) (f:FuncId) (c:List PV):zck rw (n + 1) (.clo f c) = .clo f (c.map (zck rw n)):=(rfl)
def zfU (rw:Nat→Row) (n:Nat) (r:Row) (ver:Nat):PV:=if r.ver = ver then (match r.kind with | .nil=>.sl false 1 [] | .sli _ sz _ c=>.sl false sz c | .tab _ c=>.sl false 1 (c.map (zli rw)) | _=>.junk) else .junk
theorem zus (rw:Nat→Row) (n j ver:Nat):zck rw (n + 1) (.own j ver) = zfU rw n (rw j) ver:=(rfl)
theorem zjU (rw:Nat→Row) (n:Nat) (ver e:Nat) (c:List PV):zfU rw n ⟨ver,.tab e c⟩ ver = .sl false 1 (c.map (zli rw)):=by simp [zfU]
theorem zjV (rw:Nat→Row) (n:Nat) (ver e sz:Nat) (fz:Bool) (c:List PV):zfU rw n ⟨ver,.sli e sz fz c⟩ ver = .sl false sz c:=by simp [zfU]
theorem zjW (rw:Nat→Row) (n:Nat) (ver:Nat):zfU rw n ⟨ver,.nil⟩ ver = .sl false 1 []:=by simp [zfU]
end
def zyy:PV→Prop | .sl _ sz c=>c.length ≤ 9223372036854775807 * sz | _=>True
def zjX:PV→Prop | .sl _ sz c=>c.length ≤ 9223372036854775807 * sz∧∀ p ∈ c,zyy p | .ag c=>∀ p ∈ c,zyy p | .eref _ c _=>∀ p ∈ c,zyy p | _=>True
def zns:PV→Prop | .sl _ sz c=>c.length ≤ 9223372036854775807 * sz∧∀ p ∈ c,zjX p | .ag c=>∀ p ∈ c,zjX p | .eref _ c _=>∀ p ∈ c,zjX p | .clo _ c=>∀ p ∈ c,zjX p | _=>True
def zDc:List PV→Prop | []=>True | p :: ps=>zns p∧zDc ps
theorem znt {w:World} {E:Env} {lo:Nat} {p:PV} {x:Value} (h:Rep w E lo p x):zyy p:=by
 cases h <;> try trivial
 next sz len cap cells a cs hl hc hm hr hh =>
  show cells.length ≤ 9223372036854775807 * sz
  rw [hl]
  exact Nat.mul_le_mul_right _ (Nat.le_trans hc hm)
theorem ziR [zae] {w:World} {E:Env} {lo:Nat} {p:PV} {x:Value} (h:Rep w E lo p x):zjX p:=by
 cases h <;> try trivial
 case sl fr sz len cap cells a cs hl hc hm hr hh =>
  refine ⟨?_,fun p hp=>?_⟩
  ·rw [hl];exact Nat.mul_le_mul_right _ (Nat.le_trans hc hm)
  ·obtain ⟨i,hi,rfl⟩:=List.getElem_of_mem hp;exact znt (hh i hi)
 case eref fr cells off b o cs hr hh=>intro p hp;obtain ⟨i,hi,rfl⟩:=List.getElem_of_mem hp;exact znt (hh i hi)
 case ag cells vs hl hh=>intro p hp;obtain ⟨i,hi,rfl⟩:=List.getElem_of_mem hp;exact znt (hh i hi (by omega))
theorem zA2 [zae] {w:World} {E:Env} {lo:Nat} {p:PV} {x:Value} (h:Rep w E lo p x):zns p:=by
 cases h <;> try trivial
 case sl fr sz len cap cells a cs hl hc hm hr hh =>
  refine ⟨?_,fun p hp=>?_⟩
  ·rw [hl];exact Nat.mul_le_mul_right _ (Nat.le_trans hc hm)
  ·obtain ⟨i,hi,rfl⟩:=List.getElem_of_mem hp;exact ziR (hh i hi)
 case eref fr cells off b o cs hr hh=>intro p hp;obtain ⟨i,hi,rfl⟩:=List.getElem_of_mem hp;exact ziR (hh i hi)
 case ag cells vs hl hh=>intro p hp;obtain ⟨i,hi,rfl⟩:=List.getElem_of_mem hp;exact ziR (hh i hi (by omega))
 case clo f cells vs hl hh=>intro p hp;obtain ⟨i,hi,rfl⟩:=List.getElem_of_mem hp;exact ziR (hh i hi (by omega))
theorem zrv [zae] {w:World} {E:Env} {lo:Nat} {ps:List PV} {vs:List Value} (h:zbc w E lo ps vs):zDc ps:=by
 have:∀ p ∈ ps,zns p:=by
  intro p hp
  obtain ⟨i,hi,rfl⟩:=List.getElem_of_mem hp
  exact zA2 (h.2 i hi (by rw [← h.1];exact hi))
 clear h
 induction ps with
 | nil=>trivial
 | cons p ps ih=>exact ⟨this p (by simp),ih fun q hq=>this q (by simp [hq])⟩
theorem zaX:zDc [] = True:=(rfl)
theorem zaJ (p:PV) (ps:List PV):zDc (p :: ps) = (zns p∧zDc ps):=(rfl)
theorem zcl (x:Value):zns (.v x) = True:=(rfl)
theorem zc6 (x:Value):zjX (.v x) = True:=(rfl)
theorem zcm (fr:Bool) (xs:List Int):zjX (.sl fr 1 (iL xs)) = (xs.length ≤ 9223372036854775807):=by simp [zjX,zyy,iL]
theorem zbx (fr:Bool) (xs:List Int):zns (.sl fr 1 (iL xs)) = (xs.length ≤ 9223372036854775807):=by simp [zns,zjX,iL]
theorem zbM (x y:PV):zns (.ag [x,y]) = (zjX x∧zjX y):=by simp [zns]
theorem AC.go [zae] {f:FuncId} {fn:Func} {c:Code} {rs:List ResultVar} {args:List PV} {rv:RV} (hT:T.Ok P) (hm:P.follows .mixedOrders = true) (hf:P.funcs[f]? = some fn) (hname:(fn.name == "runtime.NumGoroutine") = false)
 (hb:fn.body = some c) (hr:fn.results.toList = rs) (hfit:(fits fn.ntmps c && decide (args.length ≤ fn.ntmps) && decide (fn.results.toList.length ≤ 4)) = true) (h:zDc args→cwp P T c (zHk T rs rv) (St.init args)):AC P f args rv:=by
 subst hr
 refine ⟨⟨fn,hf,hname,by rw [hb];rfl⟩,fun w vals hphi hv=>?_⟩
 exact (AC.of hT hm hf hname hb hfit (h (zrv hv))).2 w vals hphi hv
theorem AM.go [zae] {f:FuncId} {fn:Func} {c:Code} {rs:List ResultVar} {args:List PV} {ins:List LR} {outs:List (List PV)} {x:Value} (hT:T.Ok P) (hm:P.follows .mixedOrders = true) (hf:P.funcs[f]? = some fn) (hname:(fn.name == "runtime.NumGoroutine") = false)
 (hb:fn.body = some c) (hr:fn.results.toList = rs) (hfit:(fits fn.ntmps c && decide (args.length ≤ fn.ntmps) && decide (fn.results.toList.length ≤ 4)) = true) (hi:∀ r ∈ ins,zbB r.c) (ho:∀ c ∈ outs,zbB c) (hlen:outs.length = ins.length)
 (h:(∀ r ∈ ins,r.c.length ≤ 9223372036854775807 * r.sz)→cwp P T c (zHj T rs ins outs x) (St.initM args ins)):AM P f args ins outs x:=by
 subst hr
 exact AM.of hT hm hf hname hb hfit hi ho hlen h
theorem za3 [zae] (xs:List Int):zbB (iL xs):=by have:=zwQ xs;unfold zbB;rw [this];trivial
theorem zut [zae] (xs:List ByteArray):zbB (sL xs):=by have:=zCs xs;unfold zbB;rw [this];trivial
theorem zdG:∀ c ∈ ([]:List (List PV)),zbB c:=fun c h=>by cases h
theorem zb6 {a:List PV} {l:List (List PV)} (h1:zbB a) (h2:∀ c ∈ l,zbB c):∀ c ∈ a :: l,zbB c:=fun c hc=>by
 rcases List.mem_cons.1 hc with rfl | hc
 ·exact h1
 ·exact h2 c hc
theorem zdH:∀ r ∈ ([]:List LR),zbB r.c:=fun c h=>by cases h
theorem zb7 {e sz:Nat} {a:List PV} {l:List LR} (h1:zbB a) (h2:∀ r ∈ l,zbB r.c):∀ r ∈ (⟨e,sz,a⟩:LR) :: l,zbB r.c:=fun c hc=>by
 rcases List.mem_cons.1 hc with rfl | hc
 ·exact h1
 ·exact h2 c hc
theorem ziS (args:List PV) (ins:List LR) (i:Nat):(St.initM args ins).sl i = args.getD i .junk:=(rfl)
theorem ziT (args:List PV) (ins:List LR) (i:Nat):(St.initM args ins).rw i = inR ins i:=(rfl)
theorem zuu (ins:List LR) (k:Nat) (h:k < 1000000):inR ins k = ⟨0,.dead⟩:=by
 unfold inR;rw [if_neg (by show ¬ (1000000 ≤ k);omega)]
theorem zA3 [zae] (e sz:Nat) (c:List PV) (l:List LR):inR (⟨e,sz,c⟩ :: l) 1000000 = ⟨1,.sli e sz false c⟩:=zqo (ins:=⟨e,sz,c⟩ :: l) (i:=0) rfl
theorem zA4 [zae] (r:LR) (e sz:Nat) (c:List PV) (l:List LR):inR (r :: ⟨e,sz,c⟩ :: l) 1000001 = ⟨1,.sli e sz false c⟩:=zqo (ins:=r :: ⟨e,sz,c⟩ :: l) (i:=1) rfl
theorem zuv (rs:List ResultVar) (ins:List LR) (outs:List (List PV)) (x:Value):zHj T rs ins outs x .ret s = zDU T s rs ins outs x:=(rfl)
theorem zpX (rs:List ResultVar) (ins:List LR) (outs:List (List PV)) (x:Value):zHj T rs ins outs x .norm s = zDU T s rs ins outs x:=(rfl)
theorem zuw (r:Nat) (ins:List LR) (outs:List (List PV)) (x:Value):zDU T s [.tmp r] ins outs x = (zrx s.rw 0 ins outs∧s.sl r = .v x):=(rfl)
theorem zpY (ins:List LR) (outs:List (List PV)) (x:Value):zDU T s [] ins outs x = (zrx s.rw 0 ins outs∧x = .tuple #[]):=(rfl)
theorem zyz (rw:Nat→Row) (e sz:Nat) (a c:List PV):zrx rw 0 [⟨e,sz,a⟩] [c] = (rw 1000000 = ⟨1,.sli e sz false c⟩):=by
 show (rw 1000000 = ⟨1,.sli e sz false c⟩∧True) = _
 rw [and_true]
theorem zyA (rw:Nat→Row) (e sz e' sz':Nat) (a c a' c':List PV):zrx rw 0 [⟨e,sz,a⟩,⟨e',sz',a'⟩] [c,c'] = (rw 1000000 = ⟨1,.sli e sz false c⟩∧rw 1000001 = ⟨1,.sli e' sz' false c'⟩):=by
 show (rw 1000000 = ⟨1,.sli e sz false c⟩∧rw 1000001 = ⟨1,.sli e' sz' false c'⟩∧True) = _
 rw [and_true]
theorem znu (j v e sz:Nat) (a c:List PV):s.wrote [(j,v)] [⟨e,sz,a⟩] [c] = s.row j ⟨v,.sli e sz false c⟩:=by
 unfold St.wrote St.row zdn
 congr 1
 funext k
 by_cases h:k = j
 ·subst h;simp
 ·have:(j == k) = false:=by simp;exact fun e=>h e.symm
  simp [h,this]
theorem znv [zae] (j v e sz j' v' e' sz':Nat) (a c a' c':List PV) (hj:j ≠ j'):s.wrote [(j,v),(j',v')] [⟨e,sz,a⟩,⟨e',sz',a'⟩] [c,c'] = (s.row j ⟨v,.sli e sz false c⟩).row j' ⟨v',.sli e' sz' false c'⟩:=by
 have hn:([(j,v),(j',v')].map (·.1)).Nodup:=by simpa using hj
 unfold St.wrote St.row
 congr 1
 funext k
 show zdn s.rw [(j,v),(j',v')] [⟨e,sz,a⟩,⟨e',sz',a'⟩] [c,c'] k = if k = j' then ⟨v',.sli e' sz' false c'⟩ else if k = j then ⟨v,.sli e sz false c⟩ else s.rw k
 by_cases h:k = j'
 ·subst h
  rw [if_pos rfl]
  exact zke hn (i:=1) (j:=(k,v')) (r:=⟨e',sz',a'⟩) (c:=c') rfl rfl rfl
 ·rw [if_neg h]
  by_cases h':k = j
  ·subst h'
   rw [if_pos rfl]
   exact zke hn (i:=0) (j:=(k,v)) (r:=⟨e,sz,a⟩) (c:=c) rfl rfl rfl
  ·rw [if_neg h']
   exact zmJ (by simp [h,h'])
theorem AG.go [zae] {f:FuncId} {fn:Func} {c:Code} {rs:List ResultVar} {args:List PV} {R0:Nat→Row} {post:(Nat→Row)→PV→Prop} (hT:T.Ok P) (hm:P.follows .mixedOrders = true) (hf:P.funcs[f]? = some fn) (hname:(fn.name == "runtime.NumGoroutine") = false)
 (hb:fn.body = some c) (hr:fn.results.toList = rs) (hfit:(fits fn.ntmps c && decide (args.length ≤ fn.ntmps) && decide (fn.results.toList.length ≤ 4)) = true)
 (h:zDc args→(∀ k,zj1 (R0 k).kind)→∀ s:St,(∀ i,s.sl i = args.getD i .junk)→(∀ k,s.rw k = R0 k)→cwp P T c (zDT T rs post) s):AG P f args R0 post:=by
 subst hr
 refine ⟨⟨fn,hf,hname,by rw [hb];rfl⟩,fun w M E vals hw hR hv=>?_⟩
 exact (AG.of hT hm hf hname hb hfit (fun hl=>h (zrv hv) hl _ (fun _=>rfl) (fun _=>rfl))).2 w M E vals hw hR hv
theorem zux (rs:List ResultVar) (post:(Nat→Row)→PV→Prop):zDT T rs post .ret s = zAN T s rs post:=(rfl)
theorem zpZ (rs:List ResultVar) (post:(Nat→Row)→PV→Prop):zDT T rs post .norm s = zAN T s rs post:=(rfl)
theorem zuy (r:Nat) (post:(Nat→Row)→PV→Prop):zAN T s [.tmp r] post = post s.rw (s.sl r):=(rfl)
theorem zp0 (post:(Nat→Row)→PV→Prop):zAN T s [] post = post s.rw (.tup []):=(rfl)
theorem zp1 (a:Nat) (t:TypeId) (post:(Nat→Row)→PV→Prop):zAN T s [.cell a t] post = zrk s.rw (s.sl a) (kk fun m c off=>ldK T t m c off (kk fun p=>post s.rw p)):=(rfl)
theorem zuz (r r2:Nat) (post:(Nat→Row)→PV→Prop):zAN T s [.tmp r,.tmp r2] post = post s.rw (.tup [s.sl r,s.sl r2]):=(rfl)
theorem zap {n:Int} (h:-9223372036854775808 ≤ n) (h2:n ≤ 9223372036854775807):IntKind.i64.wrap n = n:=by
 simp [IntKind.wrap,IntKind.bits,IntKind.signed]
 omega
section
variable {Kp:PV→Prop}
theorem zjY [zae] (k:Nat) (p:List Nat) {t:TypeId} (o:Nat) (h0:(T t).k.agg = false) (h1:0 < (T t).size):ldK T t .asis (zaD k p) o Kp = (o < p.length∧Kp (.own (sid k (p.getD o 0)) 1)):=by
 have:=zeK (T:=T) (Kp:=Kp) (fun j=>PV.own (sid k j) 1) 0 p (t:=t) (m:=.asis) o (fun j=>.own (sid k j) 1) (fun _=>rfl) h0 h1
 exact this
theorem zHh (k:Nat) (p:List Nat) (i j:Nat):spl (zaD k p) i [.own (sid k j) 1] = zaD k (p.set i j):=by
 show (zaD k p).set i (.own (sid k j) 1) = _
 unfold zaD;rw [List.map_set]
theorem zA5 (k:Nat) (p:List Nat) (j:Nat):zaD k p ++ [.own (sid k j) 1] = zaD k (p ++ [j]):=by simp [zaD]
theorem zgD (k v e e2:Nat) (p:List Nat) (rows:List (List PV)):(s.tabbed k v e e2 p rows).sl = s.sl:=(rfl)
theorem zff [zae] (k v e e2:Nat) (p:List Nat) (rows:List (List PV)):(s.tabbed k v e e2 p rows).rw k = ⟨v,.tab e (zaD k p)⟩:=zgK
theorem zgE [zae] (k v e e2:Nat) (p:List Nat) (rows:List (List PV)) (j:Nat) (h:(j % 1000 == k % 1000) = false):(s.tabbed k v e e2 p rows).rw j = s.rw j:=by
 have h:=beq_eq_false_iff_ne.1 h
 refine zht (fun e=>h (by rw [e])) fun x _ e=>h ?_
 rw [e,zbu];omega
theorem zp2 (k v:Nat) (dst:Option Nat):TR.self.next s k v dst K = K (s.put dst (.own k v)):=(rfl)
theorem zmz (k v:Nat) (dst:Option Nat) (x:Value):(TR.selfx x).next s k v dst K = K (s.put dst (.tup [.own k v,.v x])):=(rfl)
theorem zyB (k v d:Nat) (r:RV):(TR.rv r).next s k v (some d) K = (d % 1000 ≠ k % 1000∧K (zak s d r)):=(rfl)
theorem zp3 (k v:Nat) (r:RV):(TR.rv r).next s k v none K = K s:=(rfl)
theorem ziU (args:List PV) (e e2:Nat) (rows:List (List PV)) (i:Nat):(St.initT args e e2 rows).sl i = args.getD i .junk:=(rfl)
theorem ziV (args:List PV) (e e2:Nat) (rows:List (List PV)) (i:Nat):(St.initT args e e2 rows).rw i = inT e e2 rows i:=(rfl)
theorem znw [zae] (e e2:Nat) (rows:List (List PV)) (k:Nat) (h:k < 1000000):inT e e2 rows k = ⟨0,.dead⟩:=zDk h
theorem zdY [zae] (e e2:Nat) (rows:List (List PV)):inT e e2 rows 1000000 = ⟨1,.tab e (zaD 1000000 (List.range rows.length))⟩:=zeT
theorem zuA (rs:List ResultVar) (e e2 n:Nat) (rows:List (List PV)) (res:TR):zHi T rs e e2 n rows res .ret s = zDe T s rs e e2 n rows res:=(rfl)
theorem zp4 (rs:List ResultVar) (e e2 n:Nat) (rows:List (List PV)) (res:TR):zHi T rs e e2 n rows res .norm s = zDe T s rs e e2 n rows res:=(rfl)
def zuB (rw:Nat→Row) (e e2 n:Nat) (rows:List (List PV)):Prop:=∃ q:List Nat,TabIs rw lent 1 e e2 q rows∧q.Perm (List.range n)
theorem zp5 (r e e2 n:Nat) (rows:List (List PV)):zDe T s [.tmp r] e e2 n rows .self = (zuB s.rw e e2 n rows∧s.sl r = .own 1000000 1):=(rfl)
theorem zmA (r r2 e e2 n:Nat) (rows:List (List PV)) (x:Value):zDe T s [.tmp r,.tmp r2] e e2 n rows (.selfx x) = (zuB s.rw e e2 n rows∧s.sl r = .own 1000000 1∧s.sl r2 = .v x):=(rfl)
theorem zyC (rs:List ResultVar) (e e2 n:Nat) (rows:List (List PV)) (r:RV):zDe T s rs e e2 n rows (.rv r) = (zuB s.rw e e2 n rows∧zvv T s rs r):=(rfl)
theorem zeN [zae] (d e e2:Nat) (rows:List (List PV)):(zak s d (.tb e e2 rows)).sl d = .own d ((s.rw d).ver + 1):=by
 unfold zak
 rw [zav]
 rfl
theorem zc7 [zae] (d e e2 t:Nat) (rows:List (List PV)) (h:t ≠ d):(zak s d (.tb e e2 rows)).sl t = s.sl t:=by
 unfold zak
 rw [zaK _ _ _ _ h]
theorem zeO [zae] (d e e2 j:Nat) (rows:List (List PV)) (h:(j % 1000 == d % 1000) = false):(zak s d (.tb e e2 rows)).rw j = s.rw j:=by
 have h:=beq_eq_false_iff_ne.1 h
 unfold zak
 rw [zeq]
 show zau s.rw d (zag (.tb e e2 rows)) 0 j = s.rw j
 rw [zc2]
 refine zcs _ _ _ _ _ fun i _ e=>h ?_
 rw [e];unfold zaj;omega
theorem zp6 [zae] (d e e2:Nat) (rows:List (List PV)) {i:Nat} (h:i < rows.length):(zak s d (.tb e e2 rows)).rw (sid d i) = ⟨(s.rw (sid d i)).ver + 1,.sli e2 1 false (rows.getD i [])⟩:=by
 have hrw:(zak s d (.tb e e2 rows)).rw = zhu s.rw d (zbj s.rw d (zag (.tb e e2 rows)) 0) 0:=by
  unfold zak;rw [zeq];exact zc2 _ _ _ _
 have hl:(zag (.tb e e2 rows)).length = rows.length + 1:=by rw [zag];simp
 have h1:i + 1 < (zbj s.rw d (zag (.tb e e2 rows)) 0).length:=by rw [zbk,hl];omega
 have h2:i + 1 < (zag (.tb e e2 rows)).length:=by rw [hl];omega
 have:=zdx s.rw d (zbj s.rw d (zag (.tb e e2 rows)) 0) 0 (i + 1) h1
 rw [Nat.zero_add] at this
 rw [hrw]
 show zhu s.rw d _ 0 (zaj d (i + 1)) = _
 rw [this,zdN _ _ _ _ _ h2,Nat.zero_add]
 have h3:(zag (.tb e e2 rows))[i + 1] = (e2,some 1,rows[i]):=by simp [zag]
 rw [h3]
 simp [zbL,sid,List.getD,h]
theorem zdI [zae] (d e e2:Nat) (rows:List (List PV)):(zak s d (.tb e e2 rows)).rw d = ⟨(s.rw d).ver + 1,.tab e (zaO s.rw d 0 rows.length)⟩:=by
 have hrw:(zak s d (.tb e e2 rows)).rw = zhu s.rw d (zbj s.rw d (zag (.tb e e2 rows)) 0) 0:=by
  unfold zak;rw [zeq];exact zc2 _ _ _ _
 have hl:(zag (.tb e e2 rows)).length = rows.length + 1:=by rw [zag];simp
 have h1:0 < (zbj s.rw d (zag (.tb e e2 rows)) 0).length:=by rw [zbk,hl];omega
 have h2:0 < (zag (.tb e e2 rows)).length:=by rw [hl];omega
 have:=zdx s.rw d (zbj s.rw d (zag (.tb e e2 rows)) 0) 0 0 h1
 rw [Nat.zero_add] at this
 rw [hrw]
 have hd:zaj d 0 = d:=by unfold zaj;omega
 have e1:zhu s.rw d (zbj s.rw d (zag (.tb e e2 rows)) 0) 0 d = zhu s.rw d (zbj s.rw d (zag (.tb e e2 rows)) 0) 0 (zaj d 0):=by rw [hd]
 rw [e1,this,zdN _ _ _ _ _ h2]
 have h3:(zag (.tb e e2 rows))[0] = (e,none,List.replicate rows.length .junk):=by simp [zag]
 rw [h3]
 simp [zbL,hd]
theorem zjZ [zae] (d j:Nat):zaj d (0 + 1 + j) = sid d j:=by rw [zbu];unfold zaj;omega
theorem zp7 [zae] (d e e2:Nat) (rows:List (List PV)) (h:∀ i,i < rows.length→(s.rw (sid d i)).ver = 0):TabIs (zak s d (.tb e e2 rows)).rw d ((s.rw d).ver + 1) e e2 (List.range rows.length) rows:=by
 refine ⟨?_,by simp,fun i hi=>?_⟩
 ·rw [zdI]
  congr 2
  unfold zaO zaD
  refine List.map_congr_left fun j hj=>?_
  rw [zjZ,h j (List.mem_range.1 hj)]
 ·have hi':i < rows.length:=by simpa using hi
  have:(List.range rows.length).getD i 0 = i:=by simp [List.getD,hi']
  rw [this,zp6 d e e2 rows hi',h i hi']
theorem zrw [zae] (d e e2:Nat) (rows:List (List PV)):(zaO s.rw d 0 rows.length).map (zli (zak s d (.tb e e2 rows)).rw) = rows.map fun r=>.sl false 1 r:=by
 refine List.ext_getElem (by simp [zaO]) fun i a b=>?_
 have hi:i < rows.length:=by simpa using b
 have h2:rows.getD i [] = rows[i]:=by simp [List.getD,hi]
 rw [List.getElem_map,List.getElem_map]
 simp only [zaO,List.getElem_map,List.getElem_range]
 rw [zjZ]
 simp only [zli,zp6 d e e2 rows hi,if_true,h2]
end
theorem zgF (k:Nat) (p:List Nat):(s.killed k p).sl = s.sl:=(rfl)
theorem zgG [zae] (k:Nat) (p:List Nat) (j:Nat) (h:(j % 1000 == k % 1000) = false):(s.killed k p).rw j = s.rw j:=by
 have h:=beq_eq_false_iff_ne.1 h
 refine zbZ fun hj=>h ?_
 rcases hj with rfl | ⟨x,_,rfl⟩
 ·rfl
 ·exact zcO _ _
theorem zj0 [zae] {rw0:Nat→Row} (d e e2:Nat) (rows:List (List PV)) (h:∀ i,s.rw (sid d i) = rw0 (sid d i)):(zaO rw0 d 0 rows.length).map (zli (zak s d (.tb e e2 rows)).rw) = rows.map fun r=>.sl false 1 r:=by
 have:zaO rw0 d 0 rows.length = zaO s.rw d 0 rows.length:=by
  unfold zaO
  refine List.map_congr_left fun j _=>?_
  rw [zjZ,h j]
 rw [this,zrw]
theorem zDd (M:List (List Int)):(M.map iL).map (fun r=>PV.sl false 1 r) = iLL M:=by
 unfold iLL
 rw [List.map_map];rfl
def zlc [zae] {α:Type} (I:α→St→Prop) (μ:α→Nat) (m:Nat) (s2:St):Prop:=∃ x' s3,Wk s2 s3∧I x' s3∧μ x' < m
theorem zac [zae] {α:Type} {I:α→St→Prop} {μ:α→Nat} {m:Nat} (x':α) (h:I x' s) (hm:μ x' < m):zlc I μ m s:=⟨x',s,Wk.refl s,h,hm⟩
theorem zah [zae] {α:Type} (I:α→St→Prop) (μ:α→Nat) (x0:α) {b:(AX→St→Prop)→St→Prop} {u:Dm b} {v:Dm Q} (h0:I x0 s) (h:∀ x s1,I x s1→b (AX.seq (zlc I μ (μ x)) Q) s1):zqc (kk b u) (kk Q v) s :=
 ⟨α,I,μ,⟨x0,s,Wk.refl s,h0⟩,h⟩
end
end Go.Abs
