/- DERIVED by an AI agent. Rules by which simp carries a text out, head first. No program in sight. -/
import Derived.Test.YtjikeknpidbceaaGreatDoorA10
namespace Go.Abs
set_option linter.unusedSimpArgs false
set_option linter.unusedVariables false
def iL (xs:List Int):List PV:=xs.map fun n=>.v (.int .i64 n)
def kL (k:IntKind) (xs:List Int):List PV:=xs.map fun n=>.v (.int k n)
def sL (xs:List ByteArray):List PV:=xs.map fun n=>.v (.string n)
def bL (xs:List Bool):List PV:=xs.map fun n=>.v (.bool n)
def iLL (xss:List (List Int)):List PV:=xss.map fun r=>.sl false 1 (iL r)
abbrev zbr (xs:List Int):PV:=.sl false 1 (iL xs)
abbrev zJs (xs:List ByteArray):PV:=.sl false 1 (sL xs)
abbrev zo6 (xss:List (List Int)):PV:=.sl false 1 (iLL xss)
abbrev int (n:Int):PV:=.v (.int .i64 n)
abbrev u64 (n:Int):PV:=.v (.int .u64 n)
abbrev bool (b:Bool):PV:=.v (.bool b)
abbrev str (s:ByteArray):PV:=.v (.string s)
theorem zjE (xs:List Int):(iL xs).length = xs.length:=by simp [iL]
theorem zo7 (k:IntKind) (xs:List Int):(kL k xs).length = xs.length:=by simp [kL]
theorem zb8 (xs:List ByteArray):(sL xs).length = xs.length:=by simp [sL]
theorem zo8 (xs:List Bool):(bL xs).length = xs.length:=by simp [bL]
theorem zhE (xs:List (List Int)):(iLL xs).length = xs.length:=by simp [iLL]
theorem zo9 (xs ys:List Int):iL xs ++ iL ys = iL (xs ++ ys):=by simp [iL]
theorem zxr (xs:List Int) (n:Int):iL xs ++ [.v (.int .i64 n)] = iL (xs ++ [n]):=by simp [iL]
theorem zpa (k:IntKind) (xs ys:List Int):kL k xs ++ kL k ys = kL k (xs ++ ys):=by simp [kL]
theorem zxs (k:IntKind) (xs:List Int) (n:Int):kL k xs ++ [.v (.int k n)] = kL k (xs ++ [n]):=by simp [kL]
theorem znI (xs:List ByteArray) (n:ByteArray):sL xs ++ [.v (.string n)] = sL (xs ++ [n]):=by simp [sL]
theorem zpb (xs ys:List ByteArray):sL xs ++ sL ys = sL (xs ++ ys):=by simp [sL]
theorem znJ (xs:List (List Int)) (r:List Int):iLL xs ++ [.sl false 1 (iL r)] = iLL (xs ++ [r]):=by simp [iLL]
theorem zl5 (xs ys:List (List Int)):iLL xs ++ iLL ys = iLL (xs ++ ys):=by simp [iLL]
theorem zxt (xs:List Int) (n:Nat):(iL xs).take n = iL (xs.take n):=by simp [iL]
theorem zxu (xs:List Int) (n:Nat):(iL xs).drop n = iL (xs.drop n):=by simp [iL]
theorem zxv (xs:List ByteArray) (n:Nat):(sL xs).take n = sL (xs.take n):=by simp [sL]
theorem zxw (xs:List ByteArray) (n:Nat):(sL xs).drop n = sL (xs.drop n):=by simp [sL]
theorem zsZ (xs:List (List Int)) (n:Nat):(iLL xs).take n = iLL (xs.take n):=by simp [iLL]
theorem zs0 (xs:List (List Int)) (n:Nat):(iLL xs).drop n = iLL (xs.drop n):=by simp [iLL]
theorem zCG (xs:List Int) (i:Nat) (n:Int):spl (iL xs) i [.v (.int .i64 n)] = iL (xs.set i n):=by simp [spl,iL]
theorem zCH (a p:PV) (c:List PV):spl (a :: c) 0 [p] = p :: c:=by simp [spl]
theorem zCI (a b p:PV) (c:List PV):spl (a :: b :: c) 1 [p] = a :: p :: c:=by simp [spl]
theorem zCJ (a b d p:PV) (c:List PV):spl (a :: b :: d :: c) 2 [p] = a :: b :: p :: c:=by simp [spl]
theorem zCK (a b d e p:PV) (c:List PV):spl (a :: b :: d :: e :: c) 3 [p] = a :: b :: d :: p :: c:=by simp [spl]
theorem zCL (a b p q:PV):spl [a,b] 0 [p,q] = [p,q]:=by simp [spl]
theorem zCM (a b c d p q:PV):spl [a,b,c,d] 0 [p,q] = [p,q,c,d]:=by simp [spl]
theorem zxx (a b c d p q:PV):spl [a,b,c,d] 2 [p,q] = [a,b,p,q]:=by simp [spl]
theorem zCN (a b c d p q r s:PV):spl [a,b,c,d] 0 [p,q,r,s] = [p,q,r,s]:=by simp [spl]
theorem zCO (xs:List Bool) (i:Nat) (n:Bool):spl (bL xs) i [.v (.bool n)] = bL (xs.set i n):=by simp [spl,bL]
theorem zxy (xs:List (List Int)) (i:Nat) (r:List Int):spl (iLL xs) i [.sl false 1 (iL r)] = iLL (xs.set i r):=by simp [spl,iLL]
theorem zdK (n:Nat) (x:Int):List.replicate n (PV.v (.int .i64 x)) = iL (List.replicate n x):=by simp [iL]
theorem zeO (n:Nat) (x:Bool):List.replicate n (PV.v (.bool x)) = bL (List.replicate n x):=by simp [bL]
theorem zxz (xs:List Int):(∀ p ∈ iL xs,isV p = true) = True:=by simp [iL,isV,Value.oneCell']
theorem zF1 (k:IntKind) (xs:List Int):(∀ p ∈ kL k xs,isV p = true) = True:=by simp [kL,isV,Value.oneCell']
theorem zCP (xs:List ByteArray):(∀ p ∈ sL xs,isV p = true) = True:=by simp [sL,isV,Value.oneCell']
theorem zBu (xs:List (List Int)):(∀ p ∈ iLL xs,zrS p = true) = True:=by simp [iLL,zrS]
theorem zxA (k:IntKind) (n:Int):(Value.int k n).oneCell' = true:=(rfl)
theorem zs1 (b:Bool):(Value.bool b).oneCell' = true:=(rfl)
theorem zl6 (b:ByteArray):(Value.string b).oneCell' = true:=(rfl)
theorem zpc (a:Option Addr) (l c:Nat):(Value.slice a l c).oneCell' = true:=(rfl)
theorem zi4 (s:St) (p:PV):s.put none p = s:=(rfl)
theorem zeC (s:St) (d:Option Nat) (p:PV):(s.put d p).rw = s.rw:=by cases d <;> rfl
theorem zs2 (s:St) (k:Nat) (r:Row):(s.row k r).sl = s.sl:=(rfl)
theorem zaH (s:St) (k:Nat) (r:Row):(s.row k r).rw k = r:=by simp [St.row]
theorem zao (s:St) (k j:Nat) (r:Row) (h:j ≠ k):(s.row k r).rw j = s.rw j:=by simp [St.row,h]
theorem zgJ (s:St) (ks:List Nat):(s.freeze ks).sl = s.sl:=(rfl)
theorem zgK (s:St) (ks:List Nat) (k:Nat):(s.freeze ks).rw k = if k ∈ ks then frz (s.rw k) else s.rw k:=(rfl)
theorem znK (ver:Nat) (e sz:Nat) (fz:Bool) (c:List PV):frz ⟨ver,.sli e sz fz c⟩ = ⟨ver,.sli e sz true c⟩:=(rfl)
theorem zs3 (s:St) (t:Nat):s.ev (.tmp t) = s.sl t:=(rfl)
theorem zxB (s:St) (f:FuncId):s.ev (.func f) = .clo f []:=(rfl)
theorem zs4 (s:St) (k:IntKind) (n:Int):s.ev (.const (.int k n)) = .v (.int k n):=(rfl)
theorem znL (s:St) (b:Bool):s.ev (.const (.bool b)) = .v (.bool b):=(rfl)
theorem zgL (s:St) (b:ByteArray):s.ev (.const (.string b)) = .v (.string b):=(rfl)
theorem zs5 (s:St) (a:Option Addr) (l c:Nat):s.ev (.const (.slice a l c)) = .v (.slice a l c):=(rfl)
theorem zCQ (s:St) (cs:List Value):s.ev (.const (.agg ⟨cs⟩)) = .ag (cs.map PV.v):=(rfl)
theorem znM (args:List PV) (i:Nat):(St.init args).sl i = args.getD i .junk:=(rfl)
theorem znN (args:List PV) (i:Nat):(St.init args).rw i = ⟨0,.dead⟩:=(rfl)
theorem zgM {α:Type} (a:α) (l:List α) (d:α):(a :: l).getD 0 d = a:=(rfl)
theorem zgN {α:Type} (a:α) (l:List α) (i:Nat) (d:α):(a :: l).getD (i + 1) d = l.getD i d:=(rfl)
theorem zi5 {α:Type} (i:Nat) (d:α):([]:List α).getD i d = d:=(rfl)
theorem zi6 (s:St) (d:Nat) (kd:RK) (p:Nat→PV):zcU s d kd p = (s.row d ⟨(s.rw d).ver + 1,kd⟩).put (some d) (p ((s.rw d).ver + 1)):=(rfl)
theorem zi7 (s:St) (d k:Nat) (kd:RK):zdb s d k kd = (s.row k ⟨(s.rw k).ver + 1,kd⟩).put (some d) (.own k ((s.rw k).ver + 1)):=(rfl)
structure Dm {α:Type} (K:α):Type
def kk {α:Type} (K:α) (_:Dm K:=⟨⟩):α:=K
theorem zBv {α β:Type} (K:α→β) (u:Dm K) (x:α):kk K u x = K x:=(rfl)
def evK (p:PV) (K:PV→Prop):Prop:=K p
theorem zF2 (v:Value) (K:PV→Prop):evK (.v v) K = K (.v v):=(rfl)
theorem zCR (fr:Bool) (z:Nat) (c:List PV) (K:PV→Prop):evK (.sl fr z c) K = K (.sl fr z c):=(rfl)
theorem zxC (j v:Nat) (K:PV→Prop):evK (.own j v) K = K (.own j v):=(rfl)
theorem zxD (j v o:Nat) (K:PV→Prop):evK (.ref j v o) K = K (.ref j v o):=(rfl)
theorem zs6 (fr:Bool) (c:List PV) (o:Nat) (K:PV→Prop):evK (.eref fr c o) K = K (.eref fr c o):=(rfl)
theorem zCS (c:List PV) (K:PV→Prop):evK (.ag c) K = K (.ag c):=(rfl)
theorem zxE (c:List PV) (K:PV→Prop):evK (.tup c) K = K (.tup c):=(rfl)
theorem zxF (f:FuncId) (c:List PV) (K:PV→Prop):evK (.clo f c) K = K (.clo f c):=(rfl)
theorem zs7 (K:PV→Prop):evK .junk K = K .junk:=(rfl)
section
variable {P:Program} {T:Tab} {ops:Array Oper} {Q:AX→St→Prop} {s:St}
def zBw (p:PV) (A B:Prop):Prop:=match p with | .v (.bool b)=>(b = true→A)∧(b = false→B) | _=>False
def c1 (b:Bool) (A B:Prop):Prop:=(b = true→A)∧(b = false→B)
def c2 (b:Bool) (A B:Prop):Prop:=(b = true→A)∧(b = false→B)
def d1 (b:Bool) (A B:Prop):Prop:=(b = false→A)∧(b = true→B)
def d2 (b:Bool) (A B:Prop):Prop:=(b = false→A)∧(b = true→B)
theorem zF3 (A B:Prop):c1 true (kk A) (kk B) = A:=by simp [c1,kk]
theorem zF4 (A B:Prop):c1 false (kk A) (kk B) = B:=by simp [c1,kk]
theorem zF5 (A B:Prop):c2 true (kk A) (kk B) = A:=by simp [c2,kk]
theorem zF6 (A B:Prop):c2 false (kk A) (kk B) = B:=by simp [c2,kk]
theorem zF7 (A B:Prop):d1 true (kk A) (kk B) = B:=by simp [d1,kk]
theorem zF8 (A B:Prop):d1 false (kk A) (kk B) = A:=by simp [d1,kk]
theorem zF9 (A B:Prop):d2 true (kk A) (kk B) = B:=by simp [d2,kk]
theorem zGa (A B:Prop):d2 false (kk A) (kk B) = A:=by simp [d2,kk]
theorem zCT (b:Bool) (A B:Prop):c1 b A B = c2 b A B:=(rfl)
theorem zCU (b:Bool) (A B:Prop):c2 b (kk A) (kk B) = ((b = true→A)∧(b = false→B)):=(rfl)
theorem zCV (b:Bool) (A B:Prop):d1 b A B = d2 b A B:=(rfl)
theorem zCW (b:Bool) (A B:Prop):d2 b (kk A) (kk B) = ((b = false→A)∧(b = true→B)):=(rfl)
theorem zl7 (b:Bool) (A B:Prop):zBw (.v (.bool b)) A B = c1 b A B:=(rfl)
theorem zs8 [zad]:cwp P T .skip Q s = Q .norm s:=(rfl)
theorem zib [zad] (id:Nat):cwp P T (.region id ops false) Q s = zsc P T ops ops.toList s (Q .norm):=(rfl)
theorem zic [zad] (id:Nat):cwp P T (.region id ops true) Q s = (zkw ops = true∧zeW P T ops [] ops.toList s (Q .norm)):=(rfl)
theorem zxG [zad] (x y:Code):cwp P T (.seq x y) Q s = cwp P T x (AX.seq (cwp P T y Q) Q) s:=(rfl)
theorem zs9 [zad] (c:Operand) (x y:Code):cwp P T (.cond c x y) Q s = zBw (s.ev c) (kk (cwp P T x Q s)) (kk (cwp P T y Q s)):=(rfl)
theorem zpd [zad] (id:Nat) (x:Code):cwp P T (.block id x) Q s = cwp P T x (AX.blk id Q) s:=(rfl)
theorem zta [zad] (x:Code):cwp P T (.loop x) Q s = zqU (kk (cwp P T x)) (kk Q) s:=(rfl)
theorem ztb [zad] (id:Nat):cwp P T (.exit id) Q s = Q (.exit id) s:=(rfl)
theorem zxH [zad]:cwp P T .ret Q s = Q .ret s:=(rfl)
theorem zpe [zad] (l:Nat):cwp P T (.label l) Q s = Q .norm s:=(rfl)
variable {K:St→Prop}
theorem ztc:AX.seq K Q .norm s = K s:=(rfl)
theorem zxI:AX.seq K Q .ret s = Q .ret s:=(rfl)
theorem ztd (id:Nat):AX.seq K Q (.exit id) s = Q (.exit id) s:=(rfl)
theorem zte (id:Nat):AX.blk id Q .norm s = Q .norm s:=(rfl)
theorem zxJ (id:Nat):AX.blk id Q .ret s = Q .ret s:=(rfl)
theorem zgO (id:Nat):AX.blk id Q (.exit id) s = Q .norm s:=by simp [AX.blk]
theorem zjF (id i:Nat) (h:i ≠ id):AX.blk id Q (.exit i) s = Q (.exit i) s:=by simp [AX.blk,h]
theorem ztf (rs:List ResultVar) (rv:RV):zHg T rs rv .ret s = zv6 T s rs rv:=(rfl)
theorem zpf (rs:List ResultVar) (rv:RV):zHg T rs rv .norm s = zv6 T s rs rv:=(rfl)
theorem ztg [zad]:zsc P T ops [] s K = K s:=(rfl)
theorem zjG:∀ (n:Nat) (p:Nat→Bool),(∀ k,k < n→p k = true)→zcL n p = true:=by
 intro n
 induction n with
 | zero=>intro p _;rfl
 | succ n ih=>intro p h;simp only [zcL,Bool.and_eq_true];exact ⟨h n (by omega),ih p fun k hk=>h k (by omega)⟩
def clr (e:Ent):List Ent→Bool | []=>true | e' :: l=>!zm7 e' e && clr e l
def zgP:List Ent→Bool | []=>true | e :: l=>clr e l && zgP l
theorem zr0:∀ {l:List Ent},zgP l = true→l.Pairwise fun a b=>zm7 b a = false:=by
 intro l
 induction l with
 | nil=>intro _;exact .nil
 | cons e l ih =>
   intro h
   simp only [zgP,Bool.and_eq_true] at h
   refine List.pairwise_cons.2 ⟨?_,ih h.2⟩
   have:∀ l':List Ent,clr e l' = true→∀ b ∈ l',zm7 b e = false:=by
    intro l'
    induction l' with
    | nil=>intro _ b hb;cases hb
    | cons x l' ih' =>
      intro h b hb
      simp only [clr,Bool.and_eq_true,Bool.not_eq_true'] at h
      rcases List.mem_cons.1 hb with rfl | hb
      ·exact h.1
      ·exact ih' h.2 b hb
   exact this l h.1
theorem zvZ [zad] {l:List Ent} (h:zgP l = true):zlI ops l.reverse = true:=by
 have hp:l.reverse.Pairwise fun a b=>zm7 a b = false:=List.pairwise_reverse.2 (zr0 h)
 unfold zlI
 refine zjG _ _ fun j hj=>zjG _ _ fun i hi=>?_
 split
 ·rename_i a b ha hb
  obtain ⟨h1,rfl⟩:=List.getElem?_eq_some_iff.1 ha
  obtain ⟨h2,rfl⟩:=List.getElem?_eq_some_iff.1 hb
  have:=List.pairwise_iff_getElem.1 hp i j h1 h2 hi
  rw [this];rfl
 ·rfl
def zxK (ops:Array Oper) (acc:List Ent) (A:Prop):Prop:=zlI ops acc.reverse = true∧A
def lnK (b:Bool) (ops:Array Oper) (acc:List Ent) (A:Prop):Prop:=match b with | true=>A | false=>zlI ops acc.reverse = true∧A
theorem zpg [zad] (acc:List Ent) (A:Prop):zxK ops acc (kk A) = lnK (zgP acc) ops acc (kk A):=by
 unfold zxK lnK
 cases h:zgP acc with
 | true=>simp [zvZ h,kk]
 | false=>rfl
theorem zGb (acc:List Ent) (A:Prop):lnK true ops acc (kk A) = A:=(rfl)
theorem zGc (acc:List Ent) (A:Prop):lnK false ops acc (kk A) = (zlI ops acc.reverse = true∧A):=(rfl)
theorem zCX:zgP [] = true:=(rfl)
theorem zxL (e:Ent) (l:List Ent):zgP (e :: l) = (clr e l && zgP l):=(rfl)
theorem zxM (e:Ent):clr e [] = true:=(rfl)
theorem zth (e e':Ent) (l:List Ent):clr e (e' :: l) = (!zm7 e' e && clr e l):=(rfl)
def zoV (l:List Nat) (t:Tc):Bool:=l.any t.has
theorem zti (t:Tc):zoV [] t = false:=(rfl)
theorem zph (k:Nat) (l:List Nat) (t:Tc):zoV (k :: l) t = (t.has k || zoV l t):=(rfl)
theorem zxN (k:Nat):(Tc.ids []).has k = false:=(rfl)
theorem ztj (a:Nat) (l:List Nat) (k:Nat):(Tc.ids (a :: l)).has k = (a % 1000 == k % 1000 || (Tc.ids l).has k):=(rfl)
theorem zxO (d k:Nat):(Tc.res d).has k = (k % 1000 == d % 1000):=(rfl)
theorem zCY (a b:List Nat):zm7 ⟨a,.ids []⟩ ⟨b,.ids []⟩ = false:=by
 have e:∀ l:List Nat,l.any (Tc.ids []).has = false:=fun l=>by
  rw [List.any_eq_false];intro x _;simp [Tc.has]
 simp [zm7,e,zf1]
theorem zxP (a b t u:List Nat):zm7 ⟨a,.ids t⟩ ⟨b,.ids u⟩ = (zoV a (.ids u) || (zoV b (.ids t) || zoV t (.ids u))):=by simp [zm7,zoV,zf1,Bool.or_assoc]
theorem zxQ (a b t:List Nat) (d:Nat):zm7 ⟨a,.ids t⟩ ⟨b,.res d⟩ = (zoV a (.res d) || (zoV b (.ids t) || zoV t (.res d))):=by simp [zm7,zoV,zf1,Bool.or_assoc]
theorem zxR (a b t:List Nat) (d:Nat):zm7 ⟨a,.res d⟩ ⟨b,.ids t⟩ = (zoV a (.ids t) || (zoV b (.res d) || zoV t (.res d))):=by simp [zm7,zoV,zf1,Bool.or_assoc]
theorem zxS (a b:List Nat) (d d':Nat):zm7 ⟨a,.res d⟩ ⟨b,.res d'⟩ = (zoV a (.res d') || (zoV b (.res d) || (d % 1000 == d' % 1000))):=by simp [zm7,zoV,zf1,Bool.or_assoc]
theorem zpi [zad] (acc:List Ent):zeW P T ops acc [] s K = zxK ops acc (kk (K s)):=(rfl)
def gK (d:Option Nat) (want:Bool) (s:St) (A B:Nat→Prop) (N:Prop):Prop :=
 match d with
 | some d=>(match s.sl d with | .v (.bool b)=>(b = want→A d)∧(b = !want→B d) | .v (.tuple _)=>N | _=>False)
 | none=>False
def gK1 (want:Bool) (p:PV) (A B N:Prop):Prop:=match p with | .v (.bool b)=>(b = want→A)∧(b = !want→B) | .v (.tuple _)=>N | _=>False
theorem zxT (d:Nat) (want:Bool) (A B:Nat→Prop) (N:Prop):gK (some d) want s A B N = gK1 want (s.sl d) (kk (A d)) (kk (B d)) N:=(rfl)
theorem zpj (want:Bool) (A B N:Prop):gK1 want (.v undef) A B (kk N) = N:=(rfl)
theorem ztk (b:Bool) (A B N:Prop):gK1 true (.v (.bool b)) A B N = c1 b A B:=(rfl)
theorem zpk (b:Bool) (A B N:Prop):gK1 false (.v (.bool b)) A B N = d1 b A B:=(rfl)
theorem zpl [zad] {dst:Option Nat} {op:Op} {ty:TypeId} {pos:String} {af:Array Edge} {os:List Oper} :
 zsc P T ops (⟨dst,op,ty,pos,af,none⟩ :: os) s K = zed P T s ⟨dst,op,ty,pos,af,none⟩ (fun s2=>zsc P T ops os s2 K):=(rfl)
theorem zl8 [zad] {dst:Option Nat} {op:Op} {ty:TypeId} {pos:String} {af:Array Edge} {j:Nat} {want:Bool} {os:List Oper} :
 zsc P T ops (⟨dst,op,ty,pos,af,some (j,want)⟩ :: os) s K = gK ((ops[j]?).bind (·.dst)) want s
  (kk fun d=>zed P T (s.put (some d) (.v (.bool want))) ⟨dst,op,ty,pos,af,some (j,want)⟩ (fun s2=>zsc P T ops os s2 K))
  (kk fun d=>zsc P T ops os ((s.put (some d) (.v (.bool !want))).put dst (.v undef)) K) (kk (zsc P T ops os (s.put dst (.v undef)) K)):=(rfl)
theorem zCZ (l:List Oper) (j:Nat):((⟨l⟩:Array Oper)[j]?) = l[j]?:=by simp
theorem getElem?_zero {α:Type} (a:α) (l:List α):(a :: l)[0]? = some a:=(rfl)
theorem getElem?_succ {α:Type} (a:α) (l:List α) (i:Nat):(a :: l)[i + 1]? = l[i]?:=(rfl)
theorem zpm (o:Oper):(some o).bind (·.dst) = o.dst:=(rfl)
theorem zl9 [zad] {dst:Option Nat} {op:Op} {ty:TypeId} {pos:String} {af:Array Edge} {os:List Oper} (acc:List Ent) :
 zeW P T ops acc (⟨dst,op,ty,pos,af,none⟩ :: os) s K = dK P T s ⟨dst,op,ty,pos,af,none⟩ (kk fun e s2=>zeW P T ops (e :: acc) os s2 K):=(rfl)
theorem zjH [zad] {dst:Option Nat} {op:Op} {ty:TypeId} {pos:String} {af:Array Edge} {j:Nat} {want:Bool} {os:List Oper} (acc:List Ent) :
 zeW P T ops acc (⟨dst,op,ty,pos,af,some (j,want)⟩ :: os) s K = gK ((ops[j]?).bind (·.dst)) want s
  (kk fun d=>dK P T (s.put (some d) (.v (.bool want))) ⟨dst,op,ty,pos,af,some (j,want)⟩ (kk fun e s2=>zeW P T ops (e :: acc) os s2 K))
  (kk fun d=>zeW P T ops (⟨[],.ids []⟩ :: acc) os ((s.put (some d) (.v (.bool !want))).put dst (.v undef)) K) (kk (zeW P T ops (⟨[],.ids []⟩ :: acc) os (s.put dst (.v undef)) K)):=(rfl)
def zc7 (l:List PV) (acc:List Nat) (Kn:List Nat→Prop):Prop:=Kn (acc ++ l.flatMap zeh)
def zoW (l:List PV) (acc:List Nat) (Kn:List Nat→Prop):Prop:=Kn (acc ++ l.flatMap zDF)
section
variable (l:List PV) (acc:List Nat) (Kn:List Nat→Prop)
theorem ztl:zc7 [] acc (kk Kn) = Kn acc:=by simp [zc7,kk]
theorem zC0 (x:Value):zc7 (.v x :: l) acc (kk Kn) = zc7 l acc (kk Kn):=(rfl)
theorem zxU (fr:Bool) (z:Nat) (c:List PV):zc7 (.sl fr z c :: l) acc (kk Kn) = zc7 l acc (kk Kn):=(rfl)
theorem zpn (fr:Bool) (c:List PV) (o:Nat):zc7 (.eref fr c o :: l) acc (kk Kn) = zc7 l acc (kk Kn):=(rfl)
theorem ztm (f:FuncId) (c:List PV):zc7 (.clo f c :: l) acc (kk Kn) = zc7 l acc (kk Kn):=(rfl)
theorem ztn (c:List PV):zc7 (.tup c :: l) acc (kk Kn) = zc7 l acc (kk Kn):=(rfl)
theorem zpo:zc7 (.junk :: l) acc (kk Kn) = zc7 l acc (kk Kn):=(rfl)
theorem zto (k v:Nat):zc7 (.own k v :: l) acc (kk Kn) = zc7 l (acc ++ [k % 1000]) (kk Kn):=by simp [zc7,kk,zeh,List.flatMap_cons]
theorem ztp (k v o:Nat):zc7 (.ref k v o :: l) acc (kk Kn) = zc7 l (acc ++ [k % 1000]) (kk Kn):=by simp [zc7,kk,zeh,List.flatMap_cons]
theorem zxV (c:List PV):zc7 (.ag c :: l) acc (kk Kn) = zoW c acc (kk fun acc'=>zc7 l acc' (kk Kn)):=by simp [zc7,zoW,kk,zeh,List.flatMap_cons]
theorem ztq:zoW [] acc (kk Kn) = Kn acc:=by simp [zoW,kk]
theorem zC1 (x:Value):zoW (.v x :: l) acc (kk Kn) = zoW l acc (kk Kn):=(rfl)
theorem zxW (fr:Bool) (z:Nat) (c:List PV):zoW (.sl fr z c :: l) acc (kk Kn) = zoW l acc (kk Kn):=(rfl)
theorem zpp (fr:Bool) (c:List PV) (o:Nat):zoW (.eref fr c o :: l) acc (kk Kn) = zoW l acc (kk Kn):=(rfl)
theorem ztr (f:FuncId) (c:List PV):zoW (.clo f c :: l) acc (kk Kn) = zoW l acc (kk Kn):=(rfl)
theorem zts (k v:Nat):zoW (.own k v :: l) acc (kk Kn) = zoW l (acc ++ [k % 1000]) (kk Kn):=by simp [zoW,kk,zDF,List.flatMap_cons]
theorem ztt (k v o:Nat):zoW (.ref k v o :: l) acc (kk Kn) = zoW l (acc ++ [k % 1000]) (kk Kn):=by simp [zoW,kk,zDF,List.flatMap_cons]
end
def zeK (rw:Nat→Row) (n:Nat) (l:List PV) (acc:List Nat) (Kn:List Nat→Prop):Prop:=Kn (acc ++ l.flatMap (zd5 rw n))
def zjI (r:Row) (rw:Nat→Row) (n:Nat) (acc:List Nat) (Kn:List Nat→Prop):Prop:=Kn (acc ++ (match r.kind with | .box _ c=>c.flatMap (zd5 rw n) | _=>[]))
def zjJ (r:Row) (k:Nat) (acc:List Nat) (Kn:List Nat→Prop):Prop:=Kn (acc ++ (match r.kind with | .tab _ c=>zr6 k c | _=>[]))
section
variable (rw:Nat→Row) (n:Nat) (l:List PV) (acc:List Nat) (Kn:List Nat→Prop)
theorem ztu:zeK rw n [] acc (kk Kn) = Kn acc:=by simp [zeK,kk]
theorem zpq:zeK rw 0 l acc (kk Kn) = Kn acc:=by
 have:l.flatMap (zd5 rw 0) = []:=by simp [zd5]
 unfold zeK kk
 rw [this,List.append_nil]
theorem zC2 (x:Value):zeK rw (n + 1) (.v x :: l) acc (kk Kn) = zeK rw (n + 1) l acc (kk Kn):=by simp [zeK,zd5,List.flatMap_cons]
theorem zxX (fr:Bool) (z:Nat) (c:List PV):zeK rw (n + 1) (.sl fr z c :: l) acc (kk Kn) = zeK rw (n + 1) l acc (kk Kn):=by simp [zeK,zd5,List.flatMap_cons]
theorem zpr (fr:Bool) (c:List PV) (o:Nat):zeK rw (n + 1) (.eref fr c o :: l) acc (kk Kn) = zeK rw (n + 1) l acc (kk Kn):=by simp [zeK,zd5,List.flatMap_cons]
theorem zps:zeK rw (n + 1) (.junk :: l) acc (kk Kn) = zeK rw (n + 1) l acc (kk Kn):=by simp [zeK,zd5,List.flatMap_cons]
theorem ztv (k v:Nat):zeK rw (n + 1) (.own k v :: l) acc (kk Kn) = zjJ (rw k) k (acc ++ [k % 1000]) (kk fun acc'=>zeK rw (n + 1) l acc' (kk Kn)):=by
 simp only [zeK,zjJ,kk,List.flatMap_cons]
 rw [zd5]
 cases (rw k).kind <;> simp
theorem zma (k ver e z:Nat) (fz:Bool) (c:List PV):zjJ ⟨ver,.sli e z fz c⟩ k acc (kk Kn) = Kn acc:=by simp [zjJ,kk]
theorem zmb (k ver:Nat):zjJ ⟨ver,.nil⟩ k acc (kk Kn) = Kn acc:=by simp [zjJ,kk]
theorem zmc (k ver e:Nat) (c:List PV):zjJ ⟨ver,.tab e c⟩ k acc (kk Kn) = Kn (acc ++ zr6 k c):=(rfl)
theorem zjK [zad] (k:Nat) (p:List Nat):zr6 k (zav k p) = []:=by
 unfold zr6 zav
 rw [List.flatMap_eq_nil_iff]
 intro q hq
 obtain ⟨j,_,rfl⟩:=List.mem_map.1 hq
 simp [zcn]
theorem zpt (rw':Nat→Row) (k m:Nat):zr6 k (zaN rw' k 0 m) = []:=by
 unfold zr6 zaN
 rw [List.flatMap_eq_nil_iff]
 intro q hq
 obtain ⟨j,_,rfl⟩:=List.mem_map.1 hq
 simp [zah]
theorem zxY (c:List PV):zeK rw (n + 1) (.ag c :: l) acc (kk Kn) = zeK rw n c acc (kk fun acc'=>zeK rw (n + 1) l acc' (kk Kn)):=by simp [zeK,zd5,List.flatMap_cons,kk]
theorem ztw (f:FuncId) (c:List PV):zeK rw (n + 1) (.clo f c :: l) acc (kk Kn) = zeK rw n c acc (kk fun acc'=>zeK rw (n + 1) l acc' (kk Kn)):=by simp [zeK,zd5,List.flatMap_cons,kk]
theorem ztx (k v o:Nat):zeK rw (n + 1) (.ref k v o :: l) acc (kk Kn) = zjI (rw k) rw n (acc ++ [k % 1000]) (kk fun acc'=>zeK rw (n + 1) l acc' (kk Kn)):=by
 simp only [zeK,zjI,kk,List.flatMap_cons]
 rw [zd5]
 cases (rw k).kind <;> simp
theorem zmd (ver:Nat) (t:TypeId) (c:List PV):zjI ⟨ver,.box t c⟩ rw n acc (kk Kn) = zeK rw n c acc (kk Kn):=(rfl)
theorem zme (ver e z:Nat) (fz:Bool) (c:List PV):zjI ⟨ver,.sli e z fz c⟩ rw n acc (kk Kn) = Kn acc:=by simp [zjI,kk]
theorem zmf (ver:Nat):zjI ⟨ver,.nil⟩ rw n acc (kk Kn) = Kn acc:=by simp [zjI,kk]
end
section
variable {dst:Option Nat} {ty:TypeId} {pos:String} {af:Array Edge} {g:Option (Nat × Bool)}
theorem zty [zad] (x:Operand):opK P T s ⟨dst,.move x,ty,pos,af,g⟩ K = evK (s.ev x) (kk fun p=>K (s.put dst p)):=(rfl)
theorem zfT [zad] (t:Nat):opK P T s ⟨dst,.assign (.tmp t),ty,pos,af,g⟩ K = evK (s.sl t) (kk fun p=>K (s.put dst p)):=(rfl)
theorem zfU [zad] (k:IntKind) (n:Int):opK P T s ⟨dst,.assign (.const (.int k n)),ty,pos,af,g⟩ K = K (s.put dst (.v (.int k n))):=(rfl)
theorem zeP [zad] (b:Bool):opK P T s ⟨dst,.assign (.const (.bool b)),ty,pos,af,g⟩ K = K (s.put dst (.v (.bool b))):=(rfl)
theorem zd1 [zad] (b:ByteArray):opK P T s ⟨dst,.assign (.const (.string b)),ty,pos,af,g⟩ K = K (s.put dst (.v (.string b))):=(rfl)
theorem zfV [zad] (cs:List Value):opK P T s ⟨dst,.assign (.const (.agg ⟨cs⟩)),ty,pos,af,g⟩ K = K (s.put dst (.ag (cs.map PV.v))):=(rfl)
def zC3 (T:Tab) (k:TK):RK:=match k with | .sli e=>.sli e (T e).size false [] | _=>.nil
theorem zmg (e:TypeId):zC3 T (.sli e) = .sli e (T e).size false []:=(rfl)
theorem zfW [zad] (d:Nat):opK P T s ⟨some d,.assign (.const (.slice none 0 0)),ty,pos,af,g⟩ K = K (zcU s d (zC3 T (T ty).k) fun v=>.own d v):=(rfl)
theorem ztz [zad] (c x y:Operand):opK P T s ⟨dst,.pick c x y,ty,pos,af,g⟩ K = zBw (s.ev c) (kk (evK (s.ev x) (kk fun p=>K (s.put dst p)))) (kk (evK (s.ev y) (kk fun p=>K (s.put dst p)))):=(rfl)
theorem zxZ [zad] (op:BinOp) (t t2:TypeId) (x y:Operand):opK P T s ⟨dst,.binOp op t x y t2,ty,pos,af,g⟩ K = zcY T op t (s.ev x) (s.ev y) (kk fun p=>K (s.put dst p)):=(rfl)
theorem zC4 [zad] (op:UnOp) (t:TypeId) (x:Operand):opK P T s ⟨dst,.unOp op t x,ty,pos,af,g⟩ K = unK op (s.ev x) (kk fun p=>K (s.put dst p)):=(rfl)
theorem zjL [zad] (a b:TypeId) (x:Operand):opK P T s ⟨dst,.convert a b x,ty,pos,af,g⟩ K = zfP T s.rw a b (s.ev x) (kk fun p=>K (s.put dst p)):=(rfl)
theorem ztA [zad] (t:TypeId) (x:Operand):opK P T s ⟨dst,.load t x,ty,pos,af,g⟩ K = zrT s.rw (s.ev x) (kk fun m c off=>ldK T t m c off (kk fun p=>K (s.put dst p))):=(rfl)
theorem zgQ [zad] (t:TypeId) (x:Operand) (f:Nat):opK P T s ⟨dst,.fieldAddr t x f,ty,pos,af,g⟩ K =
 zdQ T t f (kk fun o _=>zkM (s.ev x) = true∧zdu s.rw (s.ev x) (kk (evK (zd7 (s.ev x) o) (kk fun p=>K (s.put dst p))))):=(rfl)
def agK (p:PV) (K:List PV→Prop):Prop:=match p with | .ag c=>K c | _=>False
theorem zC5 (c:List PV) (Kc:List PV→Prop):agK (.ag c) Kc = Kc c:=(rfl)
def zHr (p:PV) (K:List PV→Prop):Prop:=match p with | .tup c=>K c | _=>False
theorem ztB (c:List PV) (Kc:List PV→Prop):zHr (.tup c) Kc = Kc c:=(rfl)
theorem zjM [zad] (t:TypeId) (x:Operand) (f:Nat):opK P T s ⟨dst,.field t x f,ty,pos,af,g⟩ K =
 agK (s.ev x) (kk fun c=>zdQ T t f (kk fun o ft=>ldK T ft .asis c o (kk fun p=>K (s.put dst p)))):=by
 show zdQ T t f (fun o ft=>(match s.ev x with | .ag c=>ldK T ft .asis c o fun p=>K (s.put dst p) | _=>False)) = _
 unfold zdQ agK kk
 cases s.ev x
 case ag c=>rfl
 all_goals
  refine propext ⟨fun h=>?_,fun h=>h.elim⟩
  obtain ⟨_,h⟩:=h
  split at h
  ·split at h
   ·exact h.2.elim
   ·exact h.elim
  ·exact h.elim
theorem zgR [zad] (t:TypeId) (x i:Operand):opK P T s ⟨dst,.indexAddr t x i,ty,pos,af,g⟩ K = zbn T s.rw t (s.ev x) (s.ev i) (kk fun p=>K (s.put dst p)):=(rfl)
def ztC (T:Tab) (t:TypeId) (x i:PV) (K:PV→Prop):Prop:=0 < (T t).size∧(match (T t).k,x,i with
 | .str,.v (.string s),.v (.int _ n)=>0 ≤ n∧n.toNat < s.size∧K (.v (.int .u8 ((s.data.toList.getD n.toNat 0).toNat:Int)))
 | .arr len e,.ag c,.v (.int _ n)=>0 ≤ n∧n < len∧ldK T e .asis c (n.toNat * (T e).size) K
 | _,_,_=>False)
theorem zpu [zad] (t:TypeId) (x i:Operand):opK P T s ⟨dst,.index t x i,ty,pos,af,g⟩ K = ztC T t (s.ev x) (s.ev i) (kk fun p=>K (s.put dst p)):=(rfl)
theorem zjN [zad] (x:Operand) (i:Nat):opK P T s ⟨dst,.extract x i,ty,pos,af,g⟩ K = zHr (s.ev x) (kk fun ps=>i < ps.length∧evK (ps.getD i .junk) (kk fun p=>K (s.put dst p))):=(rfl)
theorem zid [zad] (x:Operand):opK P T s ⟨dst,.nilCheck x,ty,pos,af,g⟩ K = zdu s.rw (s.ev x) (kk (evK (s.ev x) (kk fun p=>K (s.put dst p)))):=(rfl)
theorem zie [zad] (f:FuncId) (caps:Array Operand):opK P T s ⟨dst,.makeFunc (.func f) #[] caps,ty,pos,af,g⟩ K = K (s.put dst (.clo f (caps.toList.map s.ev))):=by
 show (#[] = (#[]:Array Operand)∧K (s.put dst (.clo f (caps.toList.map s.ev)))) = _
 simp
theorem zx0 [zad] (x:Operand) (t:TypeId):opK P T s ⟨dst,.call ⟨.builtin .len,#[x],#[t]⟩,ty,pos,af,g⟩ K = zzV T s.rw t (s.ev x) (kk fun p=>K (s.put dst p)):=(rfl)
theorem zx1 [zad] (x y:Operand) (ts:Array TypeId):opK P T s ⟨dst,.call ⟨.builtin .max,#[x,y],ts⟩,ty,pos,af,g⟩ K = zcB true (s.ev x) (s.ev y) (kk fun p=>K (s.put dst p)):=(rfl)
theorem zx2 [zad] (x y:Operand) (ts:Array TypeId):opK P T s ⟨dst,.call ⟨.builtin .min,#[x,y],ts⟩,ty,pos,af,g⟩ K = zcB false (s.ev x) (s.ev y) (kk fun p=>K (s.put dst p)):=(rfl)
theorem zmh [zad] (d:Nat) (x y:Operand) (t t2:TypeId):opK P T s ⟨some d,.call ⟨.builtin .append,#[x,y],#[t,t2]⟩,ty,pos,af,g⟩ K = zkE T s d t t2 (s.ev x) (s.ev y) (kk K):=(rfl)
def zBi (p:PV) (K:FuncId→List PV→Prop):Prop:=match p with | .clo g caps=>K g caps | _=>False
theorem ztD (g:FuncId) (c:List PV) (Kc:FuncId→List PV→Prop):zBi (.clo g c) Kc = Kc g c:=(rfl)
def ziN [zad] (P:Program) (f:FuncId) (args:List PV) (K:RV→Prop) (M:Prop):Prop:=(∃ rv,AC P f args rv∧K rv) ∨ M
theorem zab [zad] {f:FuncId} {args:List PV} {Kr:RV→Prop} {u:Dm Kr} {rv:RV} {M:Prop} (h:AC P f args rv) (hk:Kr rv):ziN P f args (kk Kr u) M:=.inl ⟨rv,h,hk⟩
def ztE [zad] (P:Program) (f:FuncId) (args raw:List PV) (dst:Option Nat) (s:St) (K:St→Prop):Prop:=zJc P s f raw dst K ∨ zHk P s f raw dst K ∨ zEt P s f args dst K ∨ askG P s f raw dst K
theorem zEa [zad] {f:FuncId} {args raw lent:List PV} {k v e e2:Nat} {p:List Nat} {rows rows':List (List PV)} {res:TR} {Ka:RV→Prop} {dst:Option Nat} {us:Dm s} {u:Dm K} (h:AT P f args e e2 rows rows' res)
 (hg:GiveL [(k,v)] raw args) (ht:TabIs s.rw k v e e2 p rows) (hn:p.Nodup)
 (hk:∀ p':List Nat,p'.Perm p→res.next (s.tabbed k v e e2 p' rows') k v dst K):ziN P f lent Ka (ztE P f lent raw dst (kk s us) (kk K u)) :=
 .inr (.inr (.inl ⟨k,v,e,e2,p,rows,rows',args,res,h,hg,ht,hn,hk⟩))
theorem zBx [zad] {f:FuncId} {args raw:List PV} {Ka:RV→Prop} {d:Nat} {us:Dm s} {u:Dm K} {rv:RV} (s':St) (h:AC P f args rv) (hw:Wk (zai s d rv) s') (hk:K s'):ziN P f args Ka (ztE P f args raw (some d) (kk s us) (kk K u)) :=
 .inr (.inr (.inr (.inl ⟨rv,s',h,hw,hk⟩)))
theorem zEb [zad] {f:FuncId} {args raw lent:List PV} {R0:Nat→Row} {post:(Nat→Row)→PV→Prop} {Ka:RV→Prop} {dst:Option Nat} {us:Dm s} {u:Dm K} (h:AG P f args R0 post) (rho:Nat→Option Nat) (Ln:Nat→Prop) (hl:GvL rho Ln R0 s.rw args raw) (hg:Give rho Ln R0 s.rw)
 (hk:∀ R1 p,post R1 p→∃ (rho1:Nat→Option Nat) (nv:Nat→Nat) (nl:Bool),Back rho rho1 R1 nv nl Ln R0 s.rw∧∀ S:St,After s S dst rho1 nv nl R1 p→K S):ziN P f lent Ka (ztE P f lent raw dst (kk s us) (kk K u)) :=
 .inr (.inr (.inr (.inr ⟨args,R0,post,rho,Ln,h,hl,hg,hk⟩)))
def zhF (s:St) (l:List Operand):List PV:=l.map fun x=>zck s.rw zfO (s.ev x)
theorem zpv:zhF s [] = []:=(rfl)
theorem zmi (x:Operand) (l:List Operand):zhF s (x :: l) = zck s.rw 3 (s.ev x) :: zhF s l:=(rfl)
def zx3 (s:St) (l:List Operand):List PV:=l.map s.ev
theorem ztF:zx3 s [] = []:=(rfl)
theorem zpw (x:Operand) (l:List Operand):zx3 s (x :: l) = s.ev x :: zx3 s l:=(rfl)
theorem zBy [zad] (f:Operand) (args:List Operand) (Kr:RV→Prop):zem P s.rw s.ev f ⟨args⟩ Kr = zBi (s.ev f) (kk fun g caps=>ziN P g (zhF s args ++ caps.map (zck s.rw 3)) (kk Kr) False):=by
 unfold zem zBi ziN
 cases s.ev f <;> first | rfl | simp [kk,zhF,zfO]
theorem ztG [zad] (f:Operand) (args:List Operand) (Kr:RV→Prop) (dst:Option Nat):((zem P s.rw s.ev f ⟨args⟩ Kr ∨ zzE P s f ⟨args⟩ dst K) ∨ (match s.ev f with
 | .clo g caps=>zHk P s g (args.map s.ev ++ caps) dst K ∨ zEt P s g ((args.map fun x=>zck s.rw zfO (s.ev x)) ++ caps.map (zck s.rw zfO)) dst K ∨ askG P s g (args.map s.ev ++ caps) dst K
 | _=>False)) =
 zBi (s.ev f) (kk fun g caps=>ziN P g (zhF s args ++ caps.map (zck s.rw 3)) (kk Kr) (ztE P g (zhF s args ++ caps.map (zck s.rw 3)) (zx3 s args ++ caps) dst (kk s) (kk K))):=by
 unfold zem zzE zBi
 cases s.ev f <;> first | (simp;done) | skip
 unfold kk ziN ztE
 exact propext or_assoc
theorem zpx [zad] (d:Nat) (f:Operand) (args:List Operand) (ts:Array TypeId):zed P T s ⟨some d,.call ⟨.value f,⟨args⟩,ts⟩,ty,pos,af,g⟩ K =
 zBi (s.ev f) (kk fun g caps=>ziN P g (zhF s args ++ caps.map (zck s.rw 3)) (kk fun rv=>K (zai s d rv)) (ztE P g (zhF s args ++ caps.map (zck s.rw 3)) (zx3 s args ++ caps) (some d) (kk s) (kk K))):=ztG (P:=P) f args _ _
theorem zfX [zad] (f:Operand) (args:List Operand) (ts:Array TypeId):zed P T s ⟨none,.call ⟨.value f,⟨args⟩,ts⟩,ty,pos,af,g⟩ K =
 zBi (s.ev f) (kk fun g caps=>ziN P g (zhF s args ++ caps.map (zck s.rw 3)) (kk fun _=>K s) (ztE P g (zhF s args ++ caps.map (zck s.rw 3)) (zx3 s args ++ caps) none (kk s) (kk K))):=ztG (P:=P) f args _ _
theorem zpy [zad] (b:Builtin) (args:Array Operand) (ts:Array TypeId) (h:(match b with | .append=>false | _=>true) = true):zed P T s ⟨dst,.call ⟨.builtin b,args,ts⟩,ty,pos,af,g⟩ K = opK P T s ⟨dst,.call ⟨.builtin b,args,ts⟩,ty,pos,af,g⟩ K:=by
 cases b <;> first | rfl | cases h
theorem zpz [zad] (d:Nat) (t:TypeId):opK P T s ⟨some d,.alloc t,ty,pos,af,g⟩ K = (0 < (T t).size∧K (zcU s d (.box t ((T t).zero.map PV.v)) fun v=>.ref d v 0)):=(rfl)
theorem zx4 [zad] (d:Nat) (t:TypeId) (x:Operand):opK P T s ⟨some d,.box t x,ty,pos,af,g⟩ K = zaS s.rw (s.ev x) (kk fun c=>K (zcU s d (.box t c) fun v=>.ref d v 0)):=(rfl)
def evs (s:St) (l:List (Nat × Operand)):List PV:=l.map fun x=>s.ev x.2
theorem zx5:evs s [] = []:=(rfl)
theorem ztH (n:Nat) (x:Operand) (l:List (Nat × Operand)):evs s ((n,x) :: l) = s.ev x :: evs s l:=(rfl)
def zx6 (T:Tab) (s:St) (d:Nat) (kd:TK) (z n:Nat) (parts:List (Nat × Operand)) (K:St→Prop):Prop :=
 0 < z∧match kd with
 | .sli e=>0 < (T e).size∧n = parts.length∧zn7 0 parts = true∧n * (T e).size ≤ 16777216 ∧
  zlK s.rw (T e).size (evs s parts) fun c f=>d ∉ f∧K (((s.freeze f).row d ⟨(s.rw d).ver + 1,.sli e (T e).size false c⟩).put (some d) (.own d ((s.rw d).ver + 1)))
 | _=>False
theorem zfY [zad] (d:Nat) (t:TypeId) (n:Nat) (parts:List (Nat × Operand)):opK P T s ⟨some d,.buildSlice t n ⟨parts⟩,ty,pos,af,g⟩ K = zx6 T s d (T t).k (T t).size n parts (kk K):=(rfl)
def lit (c:List PV):List PV:=c
def zGd (a:List Int) (c:List PV):List PV:=iL a ++ c
def zGe (a:List ByteArray) (c:List PV):List PV:=sL a ++ c
def zGf (a:List Bool) (c:List PV):List PV:=bL a ++ c
def zGg (a:List (List Int)) (c:List PV):List PV:=iLL a ++ c
theorem znO:lit [] = []:=(rfl)
theorem znP (n:Int) (l:List PV):lit (.v (.int .i64 n) :: l) = zGd [n] l:=(rfl)
theorem znQ (n:ByteArray) (l:List PV):lit (.v (.string n) :: l) = zGe [n] l:=(rfl)
theorem zi8 (n:Bool) (l:List PV):lit (.v (.bool n) :: l) = zGf [n] l:=(rfl)
theorem ztI (n:List Int) (l:List PV):lit (.sl false 1 (iL n) :: l) = zGg [n] l:=(rfl)
theorem zi9 (a:List Int):zGd a [] = iL a:=List.append_nil _
theorem zja (a:List ByteArray):zGe a [] = sL a:=List.append_nil _
theorem zjb (a:List Bool):zGf a [] = bL a:=List.append_nil _
theorem zjc (a:List (List Int)):zGg a [] = iLL a:=List.append_nil _
theorem zgS (a:List Int) (n:Int) (l:List PV):zGd a (.v (.int .i64 n) :: l) = zGd (a ++ [n]) l:=by simp [zGd,iL]
theorem zgT (a:List ByteArray) (n:ByteArray) (l:List PV):zGe a (.v (.string n) :: l) = zGe (a ++ [n]) l:=by simp [zGe,sL]
theorem zgU (a:List Bool) (n:Bool) (l:List PV):zGf a (.v (.bool n) :: l) = zGf (a ++ [n]) l:=by simp [zGf,bL]
theorem zgV (a:List (List Int)) (n:List Int) (l:List PV):zGg a (.sl false 1 (iL n) :: l) = zGg (a ++ [n]) l:=by simp [zGg,iLL]
theorem zmj (d e n:Nat) (parts:List (Nat × Operand)) (h2:(T e).size = 1) :
 zx6 T s d (.sli e) 1 n parts K = (n = parts.length∧zn7 0 parts = true∧n ≤ 16777216∧zlK s.rw 1 (evs s parts) (kk fun c f=>d ∉ f∧K (((s.freeze f).row d ⟨(s.rw d).ver + 1,.sli e 1 false (lit c)⟩).put (some d) (.own d ((s.rw d).ver + 1))))):=by
 unfold zx6 kk
 simp only [h2,Nat.one_pos,true_and,Nat.mul_one]
 rfl
theorem zpA (i:Nat):zn7 i [] = true:=(rfl)
theorem zmk (i j:Nat) (x:Operand) (l:List (Nat × Operand)):zn7 i ((j,x) :: l) = (j == i && zn7 (i + 1) l):=(rfl)
theorem zpB (rw:Nat→Row) (es:Nat) (Kp:List PV→List Nat→Prop):zlK rw es [] (kk Kp) = Kp [] []:=(rfl)
theorem zml (rw:Nat→Row) (es:Nat) (p:PV) (ps:List PV) (Kp:List PV→List Nat→Prop):zlK rw es (p :: ps) (kk Kp) = zcT rw p (kk fun c f=>c.length = es∧zlK rw es ps (kk fun cs fs=>Kp (c ++ cs) (f ++ fs))):=(rfl)
theorem zpC [zad] (t:TypeId) (ad x:Operand):opK P T s ⟨none,.store t ad x,ty,pos,af,g⟩ K = zrb T s t (s.ev ad) (s.ev x) (kk K):=by
 show ((none:Option Nat) = none∧zrb T s t (s.ev ad) (s.ev x) K) = _
 simp [kk]
def zEc (T:Tab) (t:TypeId) (l c:PV) (K:TypeId→List PV→Prop):Prop :=
 match (T t).k,l,c with
 | .sli e,.v (.int _ nl),.v (.int _ nc)=>0 < (T t).size∧(T e).size = 1∧(match (T e).zero with
  | [z]=>0 ≤ nl∧nl ≤ nc∧((T e).bytes:Int) * nc ≤ 281474976710656∧nc ≤ 9223372036854775807∧K e (List.replicate nl.toNat (.v z))
  | _=>False)
 | _,_,_=>False
theorem ztJ [zad] (d:Nat) (t:TypeId) (l c:Operand):opK P T s ⟨some d,.makeSlice t l c,ty,pos,af,g⟩ K = zEc T t (s.ev l) (s.ev c) (kk fun e cs=>K (zcU s d (.sli e 1 false cs) fun v=>.own d v)):=by
 unfold zEc kk
 simp only [opK]
 generalize (T t).k = a
 generalize s.ev l = b
 generalize s.ev c = e
 cases a <;> first | rfl | skip
 cases b <;> first | rfl | skip
 rename_i v
 cases v <;> first | rfl | skip
 cases e <;> first | rfl | skip
 rename_i v
 cases v <;> rfl
def zEd (T:Tab) (kd:TK) (z:Nat) (l c:PV) (K:TypeId→List PV→Prop):Prop :=
 match kd,l,c with
 | .sli e,.v (.int _ nl),.v (.int _ nc)=>0 < z∧(T e).size = 1∧(match (T e).zero with
  | [z]=>0 ≤ nl∧nl ≤ nc∧((T e).bytes:Int) * nc ≤ 281474976710656∧nc ≤ 9223372036854775807∧K e (List.replicate nl.toNat (.v z))
  | _=>False)
 | _,_,_=>False
theorem zx7 (t:TypeId) (l c:PV) (Kc:TypeId→List PV→Prop):zEc T t l c Kc = zEd T (T t).k (T t).size l c Kc:=(rfl)
def zEe (zs:List Value) (K:Value→Prop):Prop:=match zs with | [z]=>K z | _=>False
theorem zpD (z:Value) (Kz:Value→Prop):zEe [z] Kz = Kz z:=(rfl)
theorem zpE {e:TypeId} {k1 k2:IntKind} {nl nc:Int} {Kc:TypeId→List PV→Prop} (h2:(T e).size = 1) :
 zEd T (.sli e) 1 (.v (.int k1 nl)) (.v (.int k2 nc)) Kc = zEe (T e).zero (kk fun z=>0 ≤ nl∧nl ≤ nc∧((T e).bytes:Int) * nc ≤ 281474976710656∧nc ≤ 9223372036854775807∧Kc e (List.replicate nl.toNat (.v z))):=by
 unfold zEd zEe kk
 simp only [h2,Nat.one_pos,true_and]
def zFx (T:Tab) (s:St) (t:TypeId) (x:PV) (lo hi mx:Option Operand) (K:List Nat→PV→Prop):Prop :=
 match x with
 | .own k ver=>(match (s.rw k).kind with
  | .sli _ _ false _=>zbv T (s.freeze [k]).rw s.ev t (.own k ver) lo hi mx (K [k])
  | _=>zbv T s.rw s.ev t (.own k ver) lo hi mx (K []))
 | x=>zbv T s.rw s.ev t x lo hi mx (K [])
theorem zpF [zad] (t:TypeId) (x:Operand) (lo hi mx:Option Operand):opK P T s ⟨dst,.slice t x lo hi mx,ty,pos,af,g⟩ K = zFx T s t (s.ev x) lo hi mx (kk fun fz p=>K ((s.freeze fz).put dst p)):=by
 have e:s.freeze [] = s:=St.freeze_nil s
 have h:∀ q,s.ev x = q→(match q with
  | .own k _=>(match (s.rw k).kind with
   | .sli _ _ false _=>ziS T (s.freeze [k]).rw s.ev (.slice t x lo hi mx) fun p=>K ((s.freeze [k]).put dst p)
   | _=>ziS T s.rw s.ev (.slice t x lo hi mx) fun p=>K (s.put dst p))
  | _=>ziS T s.rw s.ev (.slice t x lo hi mx) fun p=>K (s.put dst p)) = zFx T s t q lo hi mx fun fz p=>K ((s.freeze fz).put dst p):=by
  intro q hq
  unfold zFx
  cases q <;> simp only [ziS,hq,e]
 exact h _ rfl
end
def zFy (s:St) (l:List (Nat × Operand)):List (Nat × PV):=l.map fun x=>(x.1,s.ev x.2)
theorem ztK:zFy s [] = []:=(rfl)
theorem zpG (n:Nat) (x:Operand) (l:List (Nat × Operand)):zFy s ((n,x) :: l) = (n,s.ev x) :: zFy s l:=(rfl)
def zgW (T:Tab):List (Nat × TypeId)→Prop | []=>True | x :: fs=>0 < (T x.2).size∧zgW T fs
theorem zmm:zgW T [] = True:=(rfl)
theorem zjO (o:Nat) (t:TypeId) (fs:List (Nat × TypeId)):zgW T ((o,t) :: fs) = (0 < (T t).size∧zgW T fs):=(rfl)
theorem zx8:∀ fs:List (Nat × TypeId),(∀ x ∈ fs,0 < (T x.2).size) = zgW T fs:=by
 intro fs
 induction fs with
 | nil=>simp [zgW]
 | cons x fs ih=>rw [zgW,← ih];simp
def zGh (T:Tab) (rw:Nat→Row) (kd:TK) (z:Nat) (zs:List Value) (pp:List (Nat × PV)) (K:PV→Prop):Prop :=
 0 < z∧match kd with
 | .struct fs=>zgW T fs∧zda T rw fs pp (zs.map PV.v) fun c=>K (.ag c)
 | _=>False
theorem zC6 [zad] (t:TypeId) (parts:List (Nat × Operand)) (Kp:PV→Prop):zgb T s.rw s.ev t ⟨parts⟩ Kp = zGh T s.rw (T t).k (T t).size (T t).zero (zFy s parts) (kk Kp):=by
 unfold zgb zGh kk
 cases (T t).k <;> first | rfl | skip
 simp only [zx8]
 rfl
theorem zjP (rw:Nat→Row) (fs:List (Nat × TypeId)) (z:Nat) (zs:List Value) (pp:List (Nat × PV)) (Kp:PV→Prop) :
 zGh T rw (.struct fs) z zs pp (kk Kp) = (0 < z∧zgW T fs∧zda T rw fs pp (zs.map PV.v) (kk fun c=>Kp (.ag c))):=(rfl)
theorem zpH (rw:Nat→Row) (fs:List (Nat × TypeId)) (c:List PV) (Kc:List PV→Prop):zda T rw fs [] c (kk Kc) = Kc c:=(rfl)
def zHs (T:Tab) (rw:Nat→Row) (fs:List (Nat × TypeId)) (x:Option (Nat × TypeId)) (p:PV) (rest:List (Nat × PV)) (cells:List PV) (Kc:List PV→Prop):Prop :=
 match x with
 | some (off,ft)=>zaS rw p fun c=>c.length = (T ft).size∧off + c.length ≤ cells.length∧zda T rw fs rest (spl cells off c) Kc
 | none=>False
theorem zmn (rw:Nat→Row) (fs:List (Nat × TypeId)) (i:Nat) (p:PV) (rest:List (Nat × PV)) (c:List PV) (Kc:List PV→Prop):zda T rw fs ((i,p) :: rest) c (kk Kc) = zHs T rw fs fs[i]? p rest c (kk Kc):=by
 unfold zHs kk
 rw [zda]
 cases fs[i]? <;> rfl
theorem zpI (rw:Nat→Row) (fs:List (Nat × TypeId)) (off:Nat) (ft:TypeId) (p:PV) (rest:List (Nat × PV)) (cells:List PV) (Kc:List PV→Prop) :
 zHs T rw fs (some (off,ft)) p rest cells (kk Kc) = zaS rw p (kk fun c=>c.length = (T ft).size∧off + c.length ≤ cells.length∧zda T rw fs rest (spl cells off c) (kk Kc)):=(rfl)
section
variable {dst:Option Nat} {ty:TypeId} {pos:String} {af:Array Edge} {g:Option (Nat × Bool)}
theorem zpJ [zad] (t:TypeId) (parts:List (Nat × Operand)):opK P T s ⟨dst,.build t ⟨parts⟩,ty,pos,af,g⟩ K = zGh T s.rw (T t).k (T t).size (T t).zero (zFy s parts) (kk fun p=>K (s.put dst p)):=by
 rw [← zC6];rfl
def ncD (rw:Nat→Row) (kd:TK) (z:Nat) (x:PV) (Kb:Bool→Prop):Prop:=0 < z∧match kd with | .sli _=>slK rw x fun _ _ c=>Kb false∧(c = []→Kb true) | _=>False
theorem zjQ [zad] (t t2:TypeId) (x:Operand):zed P T s ⟨dst,.binOp .eql t x (.const (.slice none 0 0)) t2,ty,pos,af,g⟩ K = ncD s.rw (T t).k (T t).size (s.ev x) (kk fun b=>K (s.put dst (.v (.bool b)))):=(rfl)
theorem zjR [zad] (t t2:TypeId) (x:Operand):zed P T s ⟨dst,.binOp .neq t x (.const (.slice none 0 0)) t2,ty,pos,af,g⟩ K = ncD s.rw (T t).k (T t).size (s.ev x) (kk fun b=>K (s.put dst (.v (.bool !b)))):=(rfl)
theorem zC7 (rw:Nat→Row) (e z z':Nat) (fr:Bool) (c:List PV) (Kb:Bool→Prop):ncD rw (.sli e) z (.sl fr z' c) (kk Kb) = (0 < z∧Kb false∧(c = []→Kb true)):=(rfl)
def zv0 (r:Row) (ver:Nat) (Kb:Bool→Prop):Prop:=r.ver = ver∧match r.kind with | .nil=>Kb false∧Kb true | .sli _ _ _ c=>Kb false∧(c = []→Kb true) | _=>False
theorem zx9 (rw:Nat→Row) (e z j v:Nat) (Kb:Bool→Prop):ncD rw (.sli e) z (.own j v) (kk Kb) = (0 < z∧zv0 (rw j) v (kk Kb)):=by
 unfold ncD zv0 kk slK
 dsimp only
 cases (rw j).kind <;> simp
theorem zpK (ver e sz:Nat) (fz:Bool) (c:List PV) (Kb:Bool→Prop):zv0 ⟨ver,.sli e sz fz c⟩ ver (kk Kb) = (Kb false∧(c = []→Kb true)):=by simp [zv0,kk]
theorem zpL (ver:Nat) (Kb:Bool→Prop):zv0 ⟨ver,.nil⟩ ver (kk Kb) = (Kb false∧Kb true):=by simp [zv0,kk]
theorem ztL [zad] (x:Operand):zed P T s ⟨dst,.move x,ty,pos,af,g⟩ K = opK P T s ⟨dst,.move x,ty,pos,af,g⟩ K:=(rfl)
theorem zmo [zad] (x:Operand):zed P T s ⟨dst,.assign x,ty,pos,af,g⟩ K = opK P T s ⟨dst,.assign x,ty,pos,af,g⟩ K:=(rfl)
theorem ztM [zad] (c x y:Operand):zed P T s ⟨dst,.pick c x y,ty,pos,af,g⟩ K = opK P T s ⟨dst,.pick c x y,ty,pos,af,g⟩ K:=(rfl)
theorem zC8 [zad] (op:UnOp) (t:TypeId) (x:Operand):zed P T s ⟨dst,.unOp op t x,ty,pos,af,g⟩ K = opK P T s ⟨dst,.unOp op t x,ty,pos,af,g⟩ K:=(rfl)
theorem zjS [zad] (a b:TypeId) (x:Operand):zed P T s ⟨dst,.convert a b x,ty,pos,af,g⟩ K = opK P T s ⟨dst,.convert a b x,ty,pos,af,g⟩ K:=(rfl)
theorem ztN [zad] (t:TypeId) (x:Operand):zed P T s ⟨dst,.load t x,ty,pos,af,g⟩ K = opK P T s ⟨dst,.load t x,ty,pos,af,g⟩ K:=(rfl)
theorem zgX [zad] (t:TypeId) (x:Operand) (f:Nat):zed P T s ⟨dst,.fieldAddr t x f,ty,pos,af,g⟩ K = opK P T s ⟨dst,.fieldAddr t x f,ty,pos,af,g⟩ K:=(rfl)
theorem zpM [zad] (t:TypeId) (x:Operand) (f:Nat):zed P T s ⟨dst,.field t x f,ty,pos,af,g⟩ K = opK P T s ⟨dst,.field t x f,ty,pos,af,g⟩ K:=(rfl)
theorem zgY [zad] (t:TypeId) (x i:Operand):zed P T s ⟨dst,.indexAddr t x i,ty,pos,af,g⟩ K = opK P T s ⟨dst,.indexAddr t x i,ty,pos,af,g⟩ K:=(rfl)
theorem zpN [zad] (t:TypeId) (x i:Operand):zed P T s ⟨dst,.index t x i,ty,pos,af,g⟩ K = opK P T s ⟨dst,.index t x i,ty,pos,af,g⟩ K:=(rfl)
theorem zjT [zad] (x:Operand) (i:Nat):zed P T s ⟨dst,.extract x i,ty,pos,af,g⟩ K = opK P T s ⟨dst,.extract x i,ty,pos,af,g⟩ K:=(rfl)
theorem zif [zad] (x:Operand):zed P T s ⟨dst,.nilCheck x,ty,pos,af,g⟩ K = opK P T s ⟨dst,.nilCheck x,ty,pos,af,g⟩ K:=(rfl)
theorem zig [zad] (f:Fn) (fi caps:Array Operand):zed P T s ⟨dst,.makeFunc f fi caps,ty,pos,af,g⟩ K = opK P T s ⟨dst,.makeFunc f fi caps,ty,pos,af,g⟩ K:=(rfl)
theorem zpO [zad] (t:TypeId):zed P T s ⟨dst,.alloc t,ty,pos,af,g⟩ K = opK P T s ⟨dst,.alloc t,ty,pos,af,g⟩ K:=(rfl)
theorem zya [zad] (t:TypeId) (x:Operand):zed P T s ⟨dst,.box t x,ty,pos,af,g⟩ K = opK P T s ⟨dst,.box t x,ty,pos,af,g⟩ K:=(rfl)
theorem zmp [zad] (t:TypeId) (n:Nat):zed P T s ⟨dst,.buildSlice t n ⟨[]⟩,ty,pos,af,g⟩ K = opK P T s ⟨dst,.buildSlice t n ⟨[]⟩,ty,pos,af,g⟩ K:=(rfl)
theorem zmq [zad] (t:TypeId) (n:Nat) (p q:Nat × Operand) (l:List (Nat × Operand)):zed P T s ⟨dst,.buildSlice t n ⟨p :: q :: l⟩,ty,pos,af,g⟩ K = opK P T s ⟨dst,.buildSlice t n ⟨p :: q :: l⟩,ty,pos,af,g⟩ K:=(rfl)
def zC9 (T:Tab) (s:St) (d:Nat) (t:TypeId) (n i:Nat) (p:PV) (Kt:St→Prop) (A:Prop):Prop :=
 match p with
 | .own k ver=>(match (s.rw k).kind with | .tab _ _=>zky T s d t n i k ver Kt | .sli _ _ _ _=>A ∨ zky T s d t n i k ver Kt | _=>A)
 | _=>A
theorem zmr [zad] (d:Nat) (t:TypeId) (n i:Nat) (x:Operand):zed P T s ⟨some d,.buildSlice t n ⟨[(i,x)]⟩,ty,pos,af,g⟩ K =
 zC9 T s d t n i (s.ev x) (kk K) (kk (opK P T s ⟨some d,.buildSlice t n ⟨[(i,x)]⟩,ty,pos,af,g⟩ K)):=by
 unfold zed zC9 kk
 dsimp only
 cases s.ev x <;> rfl
theorem zDa (d:Nat) (t:TypeId) (n i:Nat) (x:Value) (A:Prop):zC9 T s d t n i (.v x) (kk K) (kk A) = A:=(rfl)
theorem zyb (d:Nat) (t:TypeId) (n i:Nat) (fr:Bool) (z:Nat) (c:List PV) (A:Prop):zC9 T s d t n i (.sl fr z c) (kk K) (kk A) = A:=(rfl)
theorem zyc (d:Nat) (t:TypeId) (n i:Nat) (c:List PV) (A:Prop):zC9 T s d t n i (.ag c) (kk K) (kk A) = A:=(rfl)
theorem zpP (d:Nat) (t:TypeId) (n i:Nat) (fr:Bool) (c:List PV) (o:Nat) (A:Prop):zC9 T s d t n i (.eref fr c o) (kk K) (kk A) = A:=(rfl)
theorem ztO (d:Nat) (t:TypeId) (n i:Nat) (j v o:Nat) (A:Prop):zC9 T s d t n i (.ref j v o) (kk K) (kk A) = A:=(rfl)
def ztP (T:Tab) (r:Row) (s:St) (d:Nat) (t:TypeId) (n i k ver:Nat) (Kt:St→Prop) (A:Prop):Prop:=match r.kind with | .tab _ _=>zky T s d t n i k ver Kt | .sli _ _ _ _=>A ∨ zky T s d t n i k ver Kt | _=>A
theorem ztQ (d:Nat) (t:TypeId) (n i k ver:Nat) (A:Prop):zC9 T s d t n i (.own k ver) (kk K) (kk A) = ztP T (s.rw k) s d t n i k ver (kk K) (kk A):=(rfl)
theorem zms (d:Nat) (t:TypeId) (n i k ver v:Nat) (A:Prop):ztP T ⟨v,.nil⟩ s d t n i k ver (kk K) (kk A) = A:=(rfl)
def zhG (T:Tab) (s:St) (d:Nat) (kd:TK) (z n i k ver:Nat) (r:Row) (K:St→Prop):Prop:=0 < z∧n = 1∧i = 0∧r.ver = ver∧r.kind.slice = true∧d ≠ k∧(match kd with
 | .sli e=>(T e).size = 1∧K ((s.row d ⟨(s.rw d).ver + 1,.tab e [.own k ver]⟩).put (some d) (.own d ((s.rw d).ver + 1)))
 | _=>False)
def orB (A B:Prop):Prop:=A ∨ B
theorem zHt {A B:Prop} {u:Dm A} {v:Dm B} (h:A):orB (kk A u) (kk B v):=.inl h
theorem zGi {A B:Prop} {u:Dm A} {v:Dm B} (h:B):orB (kk A u) (kk B v):=.inr h
theorem zmt (d:Nat) (t:TypeId) (n i k ver v e z:Nat) (fz:Bool) (c:List PV) (A:Prop):ztP T ⟨v,.sli e z fz c⟩ s d t n i k ver (kk K) (kk A) = orB (kk A) (kk (zhG T s d (T t).k (T t).size n i k ver (s.rw k) K)):=(rfl)
theorem zjU (d e k ver e' z:Nat) (fz:Bool) (c:List PV) (h:(T e).size = 1):zhG T s d (.sli e) 1 1 0 k ver ⟨ver,.sli e' z fz c⟩ K = (d ≠ k∧K ((s.row d ⟨(s.rw d).ver + 1,.tab e [.own k ver]⟩).put (some d) (.own d ((s.rw d).ver + 1)))):=by
 simp only [zhG,h,RK.slice,Nat.one_pos,true_and]
theorem zmu (d:Nat) (t:TypeId) (n i k ver v e:Nat) (c:List PV) (A:Prop):ztP T ⟨v,.tab e c⟩ s d t n i k ver (kk K) (kk A) = zhG T s d (T t).k (T t).size n i k ver (s.rw k) K:=(rfl)
theorem zjV (d e k ver e':Nat) (c:List PV) (h:(T e).size = 1):zhG T s d (.sli e) 1 1 0 k ver ⟨ver,.tab e' c⟩ K = (d ≠ k∧K ((s.row d ⟨(s.rw d).ver + 1,.tab e [.own k ver]⟩).put (some d) (.own d ((s.rw d).ver + 1)))):=by
 simp only [zhG,h,RK.slice,Nat.one_pos,true_and]
def zDb (T:Tab) (s:St) (d:Nat) (t t2:TypeId) (x:PV) (y:PV) (Kt:St→Prop) (A:Prop):Prop :=
 match x with
 | .own k ver=>(match (s.rw k).kind with | .tab e c=>zHj T s d t t2 k ver e c y Kt | _=>A)
 | _=>A
def zFz (T:Tab) (s:St) (d:Nat) (t t2:TypeId) (x:PV) (y:PV) (Kt:St→Prop) (A:Prop):Prop :=
 match y with
 | .v (.string b)=>zsq T s d t t2 x b Kt
 | _=>zDb T s d t t2 x y Kt A
theorem zmv [zad] (d:Nat) (x y:Operand) (t t2:TypeId):zed P T s ⟨some d,.call ⟨.builtin .append,⟨[x,y]⟩,⟨[t,t2]⟩⟩,ty,pos,af,g⟩ K =
 zFz T s d t t2 (s.ev x) (s.ev y) (kk K) (kk (opK P T s ⟨some d,.call ⟨.builtin .append,⟨[x,y]⟩,⟨[t,t2]⟩⟩,ty,pos,af,g⟩ K)):=by
 unfold zed zFz zDb kk
 dsimp only
 cases s.ev y with
 | v z=>cases z <;> first | rfl | (cases s.ev x <;> rfl)
 | _=>cases s.ev x <;> rfl
theorem ztR (d:Nat) (t t2:TypeId) (x:PV) (k ver:Nat) (A:Prop):zFz T s d t t2 x (.own k ver) (kk K) (kk A) = zDb T s d t t2 x (.own k ver) (kk K) (kk A):=(rfl)
theorem zyd (d:Nat) (t t2:TypeId) (x:PV) (fr:Bool) (z:Nat) (c:List PV) (A:Prop):zFz T s d t t2 x (.sl fr z c) (kk K) (kk A) = zDb T s d t t2 x (.sl fr z c) (kk K) (kk A):=(rfl)
theorem zmw (d:Nat) (t t2:TypeId) (x:PV) (a:Option Addr) (n c:Nat) (A:Prop):zFz T s d t t2 x (.v (.slice a n c)) (kk K) (kk A) = zDb T s d t t2 x (.v (.slice a n c)) (kk K) (kk A):=(rfl)
def zye (T:Tab) (r:Row) (s:St) (d:Nat) (kd:TK) (z:Nat) (kd2:TK) (z2 k ver:Nat) (b:ByteArray) (K:St→Prop):Prop :=
 0 < z∧0 < z2∧kd2 = .str∧match kd with
 | .sli e=>(T e).size = 1∧0 < (T e).bytes∧(r.ver = ver∧(match r.kind with
  | .nil=>b.size * (T e).bytes ≤ 140737488355328∧K (zdb s d k (.sli e (T e).size false (zgy b)))
  | .sli e' sz' false c=>e' = e∧sz' = (T e).size∧(c.length + b.size) * (T e).bytes ≤ 140737488355328∧K (zdb s d k (.sli e (T e).size false (c ++ zgy b)))
  | _=>False))
 | _=>False
theorem ztS (d:Nat) (t t2:TypeId) (k ver:Nat) (b:ByteArray) (A:Prop):zFz T s d t t2 (.own k ver) (.v (.string b)) (kk K) (kk A) = zye T (s.rw k) s d (T t).k (T t).size (T t2).k (T t2).size k ver b (kk K):=(rfl)
theorem zpQ (d k ver e:Nat) (c:List PV) (b:ByteArray) (h:(T e).size = 1) (h2:(T e).bytes = 1):zye T ⟨ver,.sli e 1 false c⟩ s d (.sli e) 1 .str 1 k ver b (kk K) =
 (c.length + b.size ≤ 140737488355328∧K (zdb s d k (.sli e 1 false (c ++ zgy b)))):=by
 simp only [zye,h,h2,Nat.one_pos,true_and,kk,Nat.mul_one]
theorem zpR (d k ver e:Nat) (b:ByteArray) (h:(T e).size = 1) (h2:(T e).bytes = 1):zye T ⟨ver,.nil⟩ s d (.sli e) 1 .str 1 k ver b (kk K) =
 (b.size ≤ 140737488355328∧K (zdb s d k (.sli e 1 false (zgy b)))):=by
 simp only [zye,h,h2,Nat.one_pos,true_and,kk,Nat.mul_one]
theorem zDc (d:Nat) (t t2:TypeId) (x:Value) (y:PV) (A:Prop):zDb T s d t t2 (.v x) y (kk K) (kk A) = A:=(rfl)
theorem zyf (d:Nat) (t t2:TypeId) (fr:Bool) (z:Nat) (c:List PV) (y:PV) (A:Prop):zDb T s d t t2 (.sl fr z c) y (kk K) (kk A) = A:=(rfl)
def znR (T:Tab) (r:Row) (s:St) (d:Nat) (t t2:TypeId) (k ver:Nat) (y:PV) (Kt:St→Prop) (A:Prop):Prop:=match r.kind with | .tab e c=>zHj T s d t t2 k ver e c y Kt | _=>A
theorem ztT (d:Nat) (t t2:TypeId) (k ver:Nat) (y:PV) (A:Prop):zDb T s d t t2 (.own k ver) y (kk K) (kk A) = znR T (s.rw k) s d t t2 k ver y (kk K) (kk A):=(rfl)
theorem zjW (d:Nat) (t t2:TypeId) (k ver v e z:Nat) (fz:Bool) (c:List PV) (y:PV) (A:Prop):znR T ⟨v,.sli e z fz c⟩ s d t t2 k ver y (kk K) (kk A) = A:=(rfl)
theorem zjX (d:Nat) (t t2:TypeId) (k ver v:Nat) (y:PV) (A:Prop):znR T ⟨v,.nil⟩ s d t t2 k ver y (kk K) (kk A) = A:=(rfl)
def zEf (T:Tab) (s:St) (d:Nat) (kd:TK) (z k ver e:Nat) (r:Row) (c:List PV) (y:PV) (K:St→Prop):Prop :=
 0 < z∧kd = .sli e∧(T e).size = 1∧0 < (T e).bytes∧r.ver = ver∧zwp s.rw y fun news=>(c.length + news.length) * (T e).bytes ≤ 140737488355328∧K (zdb s d k (.tab e (c ++ news)))
theorem zjY (d:Nat) (t:TypeId) (k ver v e:Nat) (c:List PV) (y:PV) (A:Prop):znR T ⟨v,.tab e c⟩ s d t t k ver y (kk K) (kk A) = zEf T s d (T t).k (T t).size k ver e (s.rw k) c y (kk K):=propext ⟨fun h=>h.2,fun h=>⟨rfl,h⟩⟩
theorem zpS (d k ver e e':Nat) (c c':List PV) (y:PV) (h:(T e).size = 1) (h2:0 < (T e).bytes):zEf T s d (.sli e) 1 k ver e ⟨ver,.tab e' c'⟩ c y (kk K) =
 zwp s.rw y (kk fun news=>(c.length + news.length) * (T e).bytes ≤ 140737488355328∧K (zdb s d k (.tab e (c ++ news)))):=by
 simp only [zEf,h,h2,Nat.one_pos,true_and,kk]
def zpT (r:Row) (rw:Nat→Row) (v:Nat) (Kc:List PV→Prop):Prop:=r.ver = v∧(match r.kind with
 | .sli _ sz _ c=>sz = 1∧(∀ p ∈ c,isV p = true)∧Kc c
 | .tab _ c=>(∀ p ∈ c,zlA rw p)∧Kc c
 | _=>False)
theorem zpU (rw:Nat→Row) (j v:Nat) (Kc:List PV→Prop):zwp rw (.own j v) (kk Kc) = zpT (rw j) rw v (kk Kc):=(rfl)
theorem zpV [zad] (rw:Nat→Row) (v e:Nat) (fz:Bool) (xs:List Int) (Kc:List PV→Prop):zpT ⟨v,.sli e 1 fz (iL xs)⟩ rw v (kk Kc) = Kc (iL xs):=by
 have:=zxz xs
 simp only [zpT,this,true_and,kk]
theorem zmx (rw:Nat→Row) (v e k ver:Nat) (Kc:List PV→Prop):zpT ⟨v,.tab e [.own k ver]⟩ rw v (kk Kc) = (zlA rw (.own k ver)∧Kc [.own k ver]):=by
 simp only [zpT,true_and,kk,List.mem_singleton,forall_eq]
theorem zpW [zad] (t:TypeId) (parts:Array (Nat × Operand)):zed P T s ⟨dst,.build t parts,ty,pos,af,g⟩ K = opK P T s ⟨dst,.build t parts,ty,pos,af,g⟩ K:=(rfl)
theorem zpX [zad] (t:TypeId) (ad x:Operand):zed P T s ⟨dst,.store t ad x,ty,pos,af,g⟩ K = opK P T s ⟨dst,.store t ad x,ty,pos,af,g⟩ K:=(rfl)
theorem ztU [zad] (t:TypeId) (l c:Operand):zed P T s ⟨dst,.makeSlice t l c,ty,pos,af,g⟩ K = opK P T s ⟨dst,.makeSlice t l c,ty,pos,af,g⟩ K:=(rfl)
theorem zpY [zad] (t:TypeId) (x:Operand) (lo hi mx:Option Operand):zed P T s ⟨dst,.slice t x lo hi mx,ty,pos,af,g⟩ K = opK P T s ⟨dst,.slice t x lo hi mx,ty,pos,af,g⟩ K:=(rfl)
theorem zjZ [zad] (op:BinOp) (t t2:TypeId) (x:Operand) (y:Nat):zed P T s ⟨dst,.binOp op t x (.tmp y) t2,ty,pos,af,g⟩ K = opK P T s ⟨dst,.binOp op t x (.tmp y) t2,ty,pos,af,g⟩ K:=by cases op <;> rfl
theorem zj0 [zad] (op:BinOp) (t t2:TypeId) (x:Operand) (k:IntKind) (n:Int):zed P T s ⟨dst,.binOp op t x (.const (.int k n)) t2,ty,pos,af,g⟩ K = opK P T s ⟨dst,.binOp op t x (.const (.int k n)) t2,ty,pos,af,g⟩ K:=by cases op <;> rfl
theorem zih [zad] (op:BinOp) (t t2:TypeId) (x:Operand) (b:Bool):zed P T s ⟨dst,.binOp op t x (.const (.bool b)) t2,ty,pos,af,g⟩ K = opK P T s ⟨dst,.binOp op t x (.const (.bool b)) t2,ty,pos,af,g⟩ K:=by cases op <;> rfl
theorem zfZ [zad] (op:BinOp) (t t2:TypeId) (x:Operand) (b:ByteArray):zed P T s ⟨dst,.binOp op t x (.const (.string b)) t2,ty,pos,af,g⟩ K = opK P T s ⟨dst,.binOp op t x (.const (.string b)) t2,ty,pos,af,g⟩ K:=by cases op <;> rfl
end
section
variable {dst:Option Nat} {ty:TypeId} {pos:String} {af:Array Edge} {g:Option (Nat × Bool)} {Ke:Ent→St→Prop}
theorem zyg [zad] (x:Operand):dK P T s ⟨dst,.move x,ty,pos,af,g⟩ (kk Ke) = evK (s.ev x) (kk fun p=>Ke ⟨[],.ids []⟩ (s.put dst p)):=(rfl)
theorem zpZ [zad] (x:Operand):dK P T s ⟨dst,.assign x,ty,pos,af,g⟩ (kk Ke) = evK (s.ev x) (kk fun p=>Ke ⟨[],.ids []⟩ (s.put dst p)):=(rfl)
theorem zyh [zad] (c x y:Operand):dK P T s ⟨dst,.pick c x y,ty,pos,af,g⟩ (kk Ke) = zBw (s.ev c) (kk (evK (s.ev x) (kk fun p=>Ke ⟨[],.ids []⟩ (s.put dst p)))) (kk (evK (s.ev y) (kk fun p=>Ke ⟨[],.ids []⟩ (s.put dst p)))):=(rfl)
theorem zDd [zad] (op:BinOp) (t t2:TypeId) (x y:Operand):dK P T s ⟨dst,.binOp op t x y t2,ty,pos,af,g⟩ (kk Ke) = zcY T op t (s.ev x) (s.ev y) (kk fun p=>Ke ⟨[],.ids []⟩ (s.put dst p)):=(rfl)
theorem zGj [zad] (op:UnOp) (t:TypeId) (x:Operand):dK P T s ⟨dst,.unOp op t x,ty,pos,af,g⟩ (kk Ke) = unK op (s.ev x) (kk fun p=>Ke ⟨[],.ids []⟩ (s.put dst p)):=(rfl)
theorem zmy [zad] (a b:TypeId) (x:Operand):dK P T s ⟨dst,.convert a b x,ty,pos,af,g⟩ (kk Ke) = zc7 [s.ev x] [] (kk fun l=>zfP T s.rw a b (s.ev x) (kk fun p=>Ke ⟨l,.ids []⟩ (s.put dst p))):=(rfl)
theorem zyi [zad] (t:TypeId) (x:Operand):dK P T s ⟨dst,.load t x,ty,pos,af,g⟩ (kk Ke) = zc7 [s.ev x] [] (kk fun l=>zrT s.rw (s.ev x) (kk fun m c off=>ldK T t m c off (kk fun p=>Ke ⟨l,.ids []⟩ (s.put dst p)))):=(rfl)
theorem zii [zad] (t:TypeId) (x:Operand) (f:Nat):dK P T s ⟨dst,.fieldAddr t x f,ty,pos,af,g⟩ (kk Ke) =
 zc7 [s.ev x] [] (kk fun l=>zdQ T t f (kk fun o _=>zkM (s.ev x) = true∧zdu s.rw (s.ev x) (kk (evK (zd7 (s.ev x) o) (kk fun p=>Ke ⟨l,.ids []⟩ (s.put dst p)))))):=(rfl)
theorem ztV [zad] (t:TypeId) (x:Operand) (f:Nat):dK P T s ⟨dst,.field t x f,ty,pos,af,g⟩ (kk Ke) =
 agK (s.ev x) (kk fun c=>zdQ T t f (kk fun o ft=>ldK T ft .asis c o (kk fun p=>Ke ⟨[],.ids []⟩ (s.put dst p)))):=zjM (P:=P) (T:=T) (s:=s) (K:=Ke ⟨[],.ids []⟩) (dst:=dst) (ty:=ty) (pos:=pos) (af:=af) (g:=g) t x f
theorem zij [zad] (t:TypeId) (x y:Operand):dK P T s ⟨dst,.indexAddr t x y,ty,pos,af,g⟩ (kk Ke) = zc7 [s.ev x,s.ev y] [] (kk fun l=>zbn T s.rw t (s.ev x) (s.ev y) (kk fun p=>Ke ⟨l,.ids []⟩ (s.put dst p))):=(rfl)
theorem ztW [zad] (t:TypeId) (x y:Operand):dK P T s ⟨dst,.index t x y,ty,pos,af,g⟩ (kk Ke) = ztC T t (s.ev x) (s.ev y) (kk fun p=>Ke ⟨[],.ids []⟩ (s.put dst p)):=(rfl)
theorem zmz [zad] (x:Operand) (n:Nat):dK P T s ⟨dst,.extract x n,ty,pos,af,g⟩ (kk Ke) = zHr (s.ev x) (kk fun ps=>n < ps.length∧evK (ps.getD n .junk) (kk fun p=>Ke ⟨[],.ids []⟩ (s.put dst p))):=(rfl)
theorem zj1 [zad] (f:FuncId) (caps:Array Operand):dK P T s ⟨dst,.makeFunc (.func f) #[] caps,ty,pos,af,g⟩ (kk Ke) = Ke ⟨[],.ids []⟩ (s.put dst (.clo f (caps.toList.map s.ev))):=by
 show (#[] = (#[]:Array Operand)∧Ke ⟨[],.ids []⟩ (s.put dst (.clo f (caps.toList.map s.ev)))) = _
 simp
theorem zj2 [zad] (x:Operand):dK P T s ⟨dst,.nilCheck x,ty,pos,af,g⟩ (kk Ke) = zc7 [s.ev x] [] (kk fun l=>zdu s.rw (s.ev x) (kk (evK (s.ev x) (kk fun p=>Ke ⟨l,.ids []⟩ (s.put dst p))))):=(rfl)
theorem zDe [zad] (x:Operand) (t:TypeId):dK P T s ⟨dst,.call ⟨.builtin .len,#[x],#[t]⟩,ty,pos,af,g⟩ (kk Ke) = zc7 [s.ev x] [] (kk fun l=>zzV T s.rw t (s.ev x) (kk fun p=>Ke ⟨l,.ids []⟩ (s.put dst p))):=(rfl)
theorem zDf [zad] (x y:Operand) (ts:Array TypeId):dK P T s ⟨dst,.call ⟨.builtin .max,#[x,y],ts⟩,ty,pos,af,g⟩ (kk Ke) = zc7 [s.ev x,s.ev y] [] (kk fun l=>zcB true (s.ev x) (s.ev y) (kk fun p=>Ke ⟨l,.ids []⟩ (s.put dst p))):=(rfl)
theorem zDg [zad] (x y:Operand) (ts:Array TypeId):dK P T s ⟨dst,.call ⟨.builtin .min,#[x,y],ts⟩,ty,pos,af,g⟩ (kk Ke) = zc7 [s.ev x,s.ev y] [] (kk fun l=>zcB false (s.ev x) (s.ev y) (kk fun p=>Ke ⟨l,.ids []⟩ (s.put dst p))):=(rfl)
theorem zp0 [zad] (t:TypeId) (x:Operand) (mx:Option Operand):dK P T s ⟨dst,.slice t x none none mx,ty,pos,af,g⟩ (kk Ke) = zc7 (s.ev x :: (mx.toList).map s.ev) [] (kk fun l=>zbv T s.rw s.ev t (s.ev x) none none mx (kk fun p=>Ke ⟨l,.ids []⟩ (s.put dst p))):=by
 cases mx <;> rfl
theorem zp1 [zad] (t:TypeId) (x lo:Operand):dK P T s ⟨dst,.slice t x (some lo) none none,ty,pos,af,g⟩ (kk Ke) = zc7 [s.ev x,s.ev lo] [] (kk fun l=>zbv T s.rw s.ev t (s.ev x) (some lo) none none (kk fun p=>Ke ⟨l,.ids []⟩ (s.put dst p))):=(rfl)
def zp2 (T:Tab) (s:St) (dst:Option Nat) (t:TypeId) (x hi:Operand) (r:Row) (k ver:Nat) (py:PV) (Ke:Ent→St→Prop):Prop :=
 match r.kind with
 | .sli _ _ false _=>zJb T s dst t r k ver py Ke
 | _=>zc7 [.own k ver,py] [] (kk fun l=>zbv T s.rw s.ev t (.own k ver) none (some hi) none (kk fun p=>Ke ⟨l,.ids []⟩ (s.put dst p)))
def zGk (T:Tab) (s:St) (dst:Option Nat) (t:TypeId) (x hi:Operand) (px py:PV) (Ke:Ent→St→Prop):Prop :=
 match px with
 | .own k ver=>zp2 T s dst t x hi (s.rw k) k ver py Ke
 | _=>zc7 [px,py] [] (kk fun l=>zbv T s.rw s.ev t px none (some hi) none (kk fun p=>Ke ⟨l,.ids []⟩ (s.put dst p)))
theorem ztX (t:TypeId) (x hi:Operand) (k ver:Nat) (py:PV):zGk T s dst t x hi (.own k ver) py (kk Ke) = zp2 T s dst t x hi (s.rw k) k ver py (kk Ke):=(rfl)
theorem zyj (t:TypeId) (x hi:Operand) (fr:Bool) (z:Nat) (c:List PV) (py:PV):zGk T s dst t x hi (.sl fr z c) py (kk Ke) = zc7 [.sl fr z c,py] [] (kk fun l=>zbv T s.rw s.ev t (.sl fr z c) none (some hi) none (kk fun p=>Ke ⟨l,.ids []⟩ (s.put dst p))):=(rfl)
theorem zDh (t:TypeId) (x hi:Operand) (v:Value) (py:PV):zGk T s dst t x hi (.v v) py (kk Ke) = zc7 [.v v,py] [] (kk fun l=>zbv T s.rw s.ev t (.v v) none (some hi) none (kk fun p=>Ke ⟨l,.ids []⟩ (s.put dst p))):=(rfl)
theorem zp3 (t:TypeId) (x hi:Operand) (v e z:Nat) (c:List PV) (k ver:Nat) (py:PV):zp2 T s dst t x hi ⟨v,.sli e z true c⟩ k ver py (kk Ke) = zc7 [.own k ver,py] [] (kk fun l=>zbv T s.rw s.ev t (.own k ver) none (some hi) none (kk fun p=>Ke ⟨l,.ids []⟩ (s.put dst p))):=(rfl)
def zHu (T:Tab) (t e:TypeId):Prop:=0 < (T t).size∧(T t).k = .sli e∧0 < (T e).size∧(T e).size = 1
theorem zj3 (t:TypeId) (x hi:Operand) (v e:Nat) (c:List PV) (k ver d:Nat) (kd:IntKind) (m:Int):zp2 T s (some d) t x hi ⟨v,.sli e 1 false c⟩ k ver (.v (.int kd m)) (kk Ke) =
 (v = ver∧zHu T t e∧0 ≤ m∧m ≤ (c.length:Int)∧Ke ⟨[],.ids [k]⟩ ((s.row k ⟨ver + 1,.sli e 1 false (c.take m.toNat)⟩).put (some d) (.own k (ver + 1)))):=by
 refine propext ⟨fun h=>?_,fun ⟨h1,⟨h2,h3,h4,h5⟩,h6,h7,h8⟩=>⟨d,e,c,kd,m,rfl,by rw [h1],h2,h3,h4,h5,rfl,h6,h7,h8⟩⟩
 obtain ⟨d',e',c',kd',m',g1,g2,g3,g4,g5,g6,g7,g8,g9,g10⟩:=h
 cases g1;cases g2;cases g7
 exact ⟨rfl,⟨g3,g4,g5,g6⟩,g8,g9,g10⟩
theorem zp4 [zad] (t:TypeId) (x hi:Operand):dK P T s ⟨dst,.slice t x none (some hi) none,ty,pos,af,g⟩ (kk Ke) = zGk T s dst t x hi (s.ev x) (s.ev hi) (kk Ke):=by
 have hr:(zeL T s.rw s.ev (.slice t x none (some hi) none) fun p=>Ke ⟨znY s ⟨dst,.slice t x none (some hi) none,ty,pos,af,g⟩,.ids []⟩ (s.put dst p)) = zc7 [s.ev x,s.ev hi] [] (kk fun l=>zbv T s.rw s.ev t (s.ev x) none (some hi) none (kk fun p=>Ke ⟨l,.ids []⟩ (s.put dst p))):=(rfl)
 show zHi T s ⟨dst,.slice t x none (some hi) none,ty,pos,af,g⟩ t (s.ev x) (s.ev hi) (kk Ke) = _
 cases hx:s.ev x with
 | own k ver =>
   rw [hx] at hr
   unfold zHi zGk zp2
   dsimp only
   generalize s.rw k = r
   cases r with
   | mk v kd =>
     cases kd with
     | sli e z fz c=>cases fz with
       | false=>rfl
       | true=>exact hr
     | _=>exact hr
 | _=>rw [hx] at hr;exact hr
theorem zp5 [zad] (t:TypeId) (x lo hi:Operand):dK P T s ⟨dst,.slice t x (some lo) (some hi) none,ty,pos,af,g⟩ (kk Ke) = zc7 [s.ev x,s.ev lo,s.ev hi] [] (kk fun l=>zbv T s.rw s.ev t (s.ev x) (some lo) (some hi) none (kk fun p=>Ke ⟨l,.ids []⟩ (s.put dst p))):=(rfl)
theorem ztY [zad] (t:TypeId) (parts:List (Nat × Operand)):dK P T s ⟨dst,.build t ⟨parts⟩,ty,pos,af,g⟩ (kk Ke) = zc7 (evs s parts) [] (kk fun l=>zGh T s.rw (T t).k (T t).size (T t).zero (zFy s parts) (kk fun p=>Ke ⟨l,.ids []⟩ (s.put dst p))):=by
 have e:((Op.build t ⟨parts⟩).operands.toList.map s.ev).flatMap zeh = (evs s parts).flatMap zeh:=by
  simp [Op.operands,evs]
  rfl
 show zeL T s.rw s.ev (.build t ⟨parts⟩) (fun p=>Ke ⟨((Op.build t ⟨parts⟩).operands.toList.map s.ev).flatMap zeh,.ids []⟩ (s.put dst p)) = _
 rw [e]
 exact (zC6 (T:=T) (s:=s) t parts (fun p=>Ke ⟨(evs s parts).flatMap zeh,.ids []⟩ (s.put dst p)))
def zEg [zad] (P:Program) (f:FuncId) (raw:List PV) (d:Nat) (s:St) (Ke:Ent→St→Prop):Prop:=zGy P s f raw d (fun rd k s1=>Ke ⟨rd,.ids [d,k]⟩ s1)
theorem zEh [zad] {f:FuncId} {args raw lent:List PV} {k v e e2 d:Nat} {p:List Nat} {rows rows':List (List PV)} {r:RV} {Ka:RV→Prop} {us:Dm s} {u:Dm Ke} (h:AT P f args e e2 rows rows' (.rv r))
 (hg:GiveL [(k,v)] raw args) (ht:TabIs s.rw k v e e2 p rows) (hn:p.Nodup) (hd:d % 1000 ≠ k % 1000) (hk:Ke ⟨[],.ids [d,k]⟩ (zai (s.killed k p) d r)):ziN P f lent Ka (zEg P f raw d (kk s us) (kk Ke u)) :=
 .inr (.inl ⟨k,v,e,e2,p,rows,rows',args,r,h,hg,ht,hn,hd,hk⟩)
theorem zBz [zad] {f:FuncId} {raw lent:List PV} {k d:Nat} {x:RV} {r:Row} {Ka:RV→Prop} {us:Dm s} {u:Dm Ke} (rd:List Nat) (h:∀ s':St,s'.rw k = s.rw k→(∀ a ∈ rd,s'.rw a = s.rw a)→∀ K':St→Prop,K' (zai (s'.row k r) d x)→askG P s' f raw (some d) K') (hd:d % 1000 ≠ k % 1000)
 (hk:Ke ⟨rd,.ids [d,k]⟩ (zai (s.row k r) d x)):ziN P f lent Ka (zEg P f raw d (kk s us) (kk Ke u)):=.inr (.inr (.inr ⟨rd,k,x,r,h,hd,hk⟩))
theorem zyk [zad] (d:Nat) (f:Operand) (args:List Operand) (ts:Array TypeId):dK P T s ⟨some d,.call ⟨.value f,⟨args⟩,ts⟩,ty,pos,af,g⟩ (kk Ke) =
 zeK s.rw 3 (zx3 s args) [] (kk fun l=>zeK s.rw 4 [s.ev f] l (kk fun l'=>zBi (s.ev f) (kk fun g caps=>ziN P g (zhF s args ++ caps.map (zck s.rw 3)) (kk fun rv=>Ke ⟨l',.res d⟩ (zai s d rv)) (zEg P g (zx3 s args ++ caps) d (kk s) (kk Ke))))):=by
 simp only [zeK,zBv,List.nil_append,List.flatMap_cons,List.flatMap_nil,List.append_nil]
 show (zem P s.rw s.ev f ⟨args⟩ (fun rv=>Ke ⟨(zx3 s args).flatMap (zd5 s.rw 3) ++ zd5 s.rw 4 (s.ev f),.res d⟩ (zai s d rv)) ∨ tdK P s f ⟨.value f,⟨args⟩,ts⟩ d Ke) = _
 unfold zem tdK zBi ziN zEg kk
 cases s.ev f <;> first | rfl | (simp;done) | skip
theorem zik [zad] (f:Operand) (args:List Operand) (ts:Array TypeId):dK P T s ⟨none,.call ⟨.value f,⟨args⟩,ts⟩,ty,pos,af,g⟩ (kk Ke) =
 zeK s.rw 3 (zx3 s args) [] (kk fun l=>zeK s.rw 4 [s.ev f] l (kk fun l'=>zBi (s.ev f) (kk fun g caps=>ziN P g (zhF s args ++ caps.map (zck s.rw 3)) (kk fun rv=>Ke ⟨l',.ids []⟩ s) False))):=by
 have e:=zBy (P:=P) (s:=s) f args (fun rv=>Ke ⟨(zx3 s args).flatMap (zd5 s.rw 3) ++ zd5 s.rw 4 (s.ev f),.ids []⟩ s)
 simp only [zeK,zBv,List.nil_append,List.flatMap_cons,List.flatMap_nil,List.append_nil]
 exact e
theorem zp6 [zad] (d:Nat) (x y:Operand) (t t2:TypeId):dK P T s ⟨some d,.call ⟨.builtin .append,#[x,y],#[t,t2]⟩,ty,pos,af,g⟩ (kk Ke) =
 zc7 [s.ev y] [] (kk fun l=>zc7 [s.ev x] [d] (kk fun l'=>opK P T s ⟨some d,.call ⟨.builtin .append,#[x,y],#[t,t2]⟩,ty,pos,af,g⟩ (Ke ⟨l,.ids l'⟩))):=by
 have e:∀ p:PV,[p].flatMap zeh = zeh p:=fun p=>by simp
 unfold zc7
 simp only [kk,e,List.nil_append]
 rfl
theorem ztZ [zad] (d:Nat) (t:TypeId):dK P T s ⟨some d,.alloc t,ty,pos,af,g⟩ (kk Ke) = opK P T s ⟨some d,.alloc t,ty,pos,af,g⟩ (Ke ⟨[],.ids [d]⟩):=(rfl)
theorem zDi [zad] (d:Nat) (t:TypeId) (x:Operand):dK P T s ⟨some d,.box t x,ty,pos,af,g⟩ (kk Ke) = zc7 [s.ev x] [] (kk fun l=>opK P T s ⟨some d,.box t x,ty,pos,af,g⟩ (Ke ⟨l,.ids [d]⟩)):=by
 have e:∀ p:PV,[p].flatMap zeh = zeh p:=fun p=>by simp
 unfold zc7
 simp only [kk,e,List.nil_append]
 rfl
theorem zgZ [zad] (d:Nat) (t:TypeId) (n:Nat) (parts:List (Nat × Operand)):dK P T s ⟨some d,.buildSlice t n ⟨parts⟩,ty,pos,af,g⟩ (kk Ke) = zc7 (evs s parts) [d] (kk fun l=>opK P T s ⟨some d,.buildSlice t n ⟨parts⟩,ty,pos,af,g⟩ (Ke ⟨[],.ids l⟩)):=(rfl)
theorem zt0 [zad] (t:TypeId) (ad x:Operand):dK P T s ⟨dst,.store t ad x,ty,pos,af,g⟩ (kk Ke) = zc7 [s.ev ad,s.ev x] [] (kk fun l=>opK P T s ⟨dst,.store t ad x,ty,pos,af,g⟩ (Ke ⟨[],.ids l⟩)):=by
 have e:[s.ev ad,s.ev x].flatMap zeh = zeh (s.ev ad) ++ zeh (s.ev x):=by simp
 unfold zc7
 simp only [kk,e,List.nil_append]
 rfl
theorem zyl [zad] (d:Nat) (t:TypeId) (l c:Operand):dK P T s ⟨some d,.makeSlice t l c,ty,pos,af,g⟩ (kk Ke) = opK P T s ⟨some d,.makeSlice t l c,ty,pos,af,g⟩ (Ke ⟨[],.ids [d]⟩):=(rfl)
end
def TK.isInt:TK→Bool | .int _=>true | _=>false
theorem zym (k:IntKind):TK.isInt (.int k) = true:=(rfl)
theorem zyn (k:IntKind):TK.agg (.int k) = false:=(rfl)
theorem zt1:TK.isInt (.bool) = false:=(rfl)
theorem zt2:TK.agg (.bool) = false:=(rfl)
theorem zyo:TK.isInt (.str) = false:=(rfl)
theorem zyp:TK.agg (.str) = false:=(rfl)
theorem zyq (e:TypeId):TK.isInt (.sli e) = false:=(rfl)
theorem zyr (e:TypeId):TK.agg (.sli e) = false:=(rfl)
theorem zmA (f:List (Nat × TypeId)):TK.isInt (.struct f) = false:=(rfl)
theorem zmB (f:List (Nat × TypeId)):TK.agg (.struct f) = true:=(rfl)
theorem zys (n:Nat) (e:TypeId):TK.isInt (.arr n e) = false:=(rfl)
theorem zyt (n:Nat) (e:TypeId):TK.agg (.arr n e) = true:=(rfl)
theorem zp7:TK.isInt (.other) = false:=(rfl)
theorem zp8:TK.agg (.other) = false:=(rfl)
theorem zt3 (l:List Oper):l.toArray.toList = l:=(rfl)
section
variable {Kp:PV→Prop} {rw:Nat→Row}
section
variable (t:TypeId) (k:IntKind) (a b:Int)
theorem zyu:zcY T .add t (.v (.int k a)) (.v (.int k b)) Kp = Kp (.v (.int k (k.wrap (a + b)))):=by simp [zcY,zbw,zb7]
theorem zyv:zcY T .sub t (.v (.int k a)) (.v (.int k b)) Kp = Kp (.v (.int k (k.wrap (a - b)))):=by simp [zcY,zbw,zb7]
theorem zyw:zcY T .mul t (.v (.int k a)) (.v (.int k b)) Kp = Kp (.v (.int k (k.wrap (a * b)))):=by simp [zcY,zbw,zb7]
theorem zyx:zcY T .quo t (.v (.int k a)) (.v (.int k b)) Kp = (b ≠ 0∧Kp (.v (.int k (k.wrap (a.tdiv b))))):=by simp [zcY,zbw,zb7]
theorem zyy:zcY T .rem t (.v (.int k a)) (.v (.int k b)) Kp = (b ≠ 0∧Kp (.v (.int k (a.tmod b)))):=by simp [zcY,zbw,zb7]
theorem zyz:zcY T .and t (.v (.int k a)) (.v (.int k b)) Kp = Kp (.v (.int k (zdI k a b))):=by simp [zcY,zbw,zb7]
theorem zDj:zcY T .or t (.v (.int k a)) (.v (.int k b)) Kp = Kp (.v (.int k (ior k a b))):=by simp [zcY,zbw,zb7]
theorem zyA:zcY T .xor t (.v (.int k a)) (.v (.int k b)) Kp = Kp (.v (.int k (zEz k a b))):=by simp [zcY,zbw,zb7]
theorem zmC:zcY T .andNot t (.v (.int k a)) (.v (.int k b)) Kp = Kp (.v (.int k (zge k a b))):=by simp [zcY,zbw,zb7]
theorem zyB (k':IntKind):zcY T .shl t (.v (.int k a)) (.v (.int k' b)) Kp = (0 ≤ b∧Kp (.v (.int k (zrU k a b)))):=by simp [zcY,zbw,zb7]
theorem zyC (k':IntKind):zcY T .shr t (.v (.int k a)) (.v (.int k' b)) Kp = (0 ≤ b∧Kp (.v (.int k (zso k a b)))):=by simp [zcY,zbw,zb7]
theorem zyD:zcY T .eql t (.v (.int k a)) (.v (.int k b)) Kp = Kp (.v (.bool (a == b))):=by simp [zcY,zbw,zb7]
theorem zyE:zcY T .neq t (.v (.int k a)) (.v (.int k b)) Kp = Kp (.v (.bool (a != b))):=by simp [zcY,zbw,zb7]
theorem zyF:zcY T .lss t (.v (.int k a)) (.v (.int k b)) Kp = Kp (.v (.bool (decide (a < b)))):=by simp [zcY,zbw,zb7]
theorem zyG:zcY T .leq t (.v (.int k a)) (.v (.int k b)) Kp = Kp (.v (.bool (decide (a ≤ b)))):=by simp [zcY,zbw,zb7]
theorem zyH:zcY T .gtr t (.v (.int k a)) (.v (.int k b)) Kp = Kp (.v (.bool (decide (b < a)))):=by simp [zcY,zbw,zb7]
theorem zyI:zcY T .geq t (.v (.int k a)) (.v (.int k b)) Kp = Kp (.v (.bool (decide (b ≤ a)))):=by simp [zcY,zbw,zb7]
end
theorem zj4 (t:TypeId) (a b:ByteArray):zcY T .eql t (.v (.string a)) (.v (.string b)) Kp = Kp (.v (.bool (a.toList == b.toList))):=by simp [zcY,znk]
theorem zj5 (t:TypeId) (a b:ByteArray):zcY T .neq t (.v (.string a)) (.v (.string b)) Kp = Kp (.v (.bool (!(a.toList == b.toList)))):=by simp [zcY,znk]
theorem zj6 (t:TypeId) (a b:ByteArray):zcY T .add t (.v (.string a)) (.v (.string b)) Kp = (a.size + b.size ≤ 9223372036854775807∧Kp (.v (.string (a ++ b)))):=by simp [zcY,znk]
theorem zil (t:TypeId) (a b:Bool):zcY T .eql t (.v (.bool a)) (.v (.bool b)) Kp = ((T t).k = .bool∧0 < (T t).size∧Kp (.v (.bool (a == b)))):=by simp [zcY]
theorem zim (t:TypeId) (a b:Bool):zcY T .neq t (.v (.bool a)) (.v (.bool b)) Kp = ((T t).k = .bool∧0 < (T t).size∧Kp (.v (.bool (!(a == b))))):=by simp [zcY]
theorem zDk (b:Bool):unK .not (.v (.bool b)) Kp = Kp (.v (.bool !b)):=(rfl)
theorem zDl (k:IntKind) (n:Int):unK .neg (.v (.int k n)) Kp = Kp (.v (.int k (k.wrap (0 - n)))):=(rfl)
theorem zt4 (fr:Bool) (c:List PV) (off:Nat) (Km:Md→List PV→Nat→Prop):zrT rw (.eref fr c off) Km = Km (.set fr) c off:=(rfl)
def zj7 (r:Row) (ver off:Nat) (Km:Md→List PV→Nat→Prop):Prop:=r.ver = ver∧match r.kind with | .box _ c=>Km .asis c off | .sli _ _ _ c=>Km (.set true) c off | .tab _ c=>Km .asis c off | _=>False
theorem zyJ (j ver off:Nat) (Km:Md→List PV→Nat→Prop):zrT rw (.ref j ver off) Km = zj7 (rw j) ver off Km:=(rfl)
theorem zmD (ver off:Nat) (bt:TypeId) (c:List PV) (Km:Md→List PV→Nat→Prop):zj7 ⟨ver,.box bt c⟩ ver off Km = Km .asis c off:=by simp [zj7]
theorem zmE (ver off e:Nat) (c:List PV) (Km:Md→List PV→Nat→Prop):zj7 ⟨ver,.tab e c⟩ ver off Km = Km .asis c off:=by simp [zj7]
theorem zmF (ver off e sz:Nat) (fz:Bool) (c:List PV) (Km:Md→List PV→Nat→Prop):zj7 ⟨ver,.sli e sz fz c⟩ ver off Km = Km (.set true) c off:=by simp [zj7]
def zin (r:Row) (ver:Nat) (K:PV→Prop):Prop:=r.ver = ver∧match r.kind with | .nil=>K (.v (.int .i64 0)) | .sli _ sz _ c=>0 < sz∧K (.v (.int .i64 ((c.length / sz:Nat):Int))) | .tab _ c=>K (.v (.int .i64 (c.length:Int))) | _=>False
def zEi (rw:Nat→Row) (k:TK) (z:Nat) (x:PV) (K:PV→Prop):Prop :=
 0 < z∧match k with
 | .str=>(match x with | .v (.string s)=>K (.v (.int .i64 s.size)) | _=>False)
 | .sli _=>zxe rw x fun sz n=>0 < sz∧K (.v (.int .i64 ((n / sz:Nat):Int)))
 | .arr n _=>K (.v (.int .i64 n))
 | _=>False
theorem zDm (t:TypeId) (x:PV):zzV T rw t x Kp = zEi rw (T t).k (T t).size x Kp:=(rfl)
theorem zyK (b:ByteArray):zEi rw .str 1 (.v (.string b)) Kp = Kp (.v (.int .i64 b.size)):=by simp [zEi]
theorem zDn (e:TypeId) (fr:Bool) (c:List PV):zEi rw (.sli e) 1 (.sl fr 1 c) Kp = Kp (.v (.int .i64 (c.length:Int))):=by simp [zEi,zxe]
theorem zyL (e:TypeId) (j ver:Nat):zEi rw (.sli e) 1 (.own j ver) Kp = zin (rw j) ver Kp:=by
 simp only [zEi,zxe,zin,true_and,Nat.one_pos]
 cases (rw j).kind <;> simp
theorem zmG (ver e:Nat) (fz:Bool) (c:List PV):zin ⟨ver,.sli e 1 fz c⟩ ver Kp = Kp (.v (.int .i64 (c.length:Int))):=by simp [zin]
theorem zmH (ver e:Nat) (c:List PV):zin ⟨ver,.tab e c⟩ ver Kp = Kp (.v (.int .i64 (c.length:Int))):=by simp [zin]
theorem zmI (ver:Nat):zin ⟨ver,.nil⟩ ver Kp = Kp (.v (.int .i64 0)):=by simp [zin]
def iaD (T:Tab) (rw:Nat→Row) (kd:TK) (z:Nat) (x i:PV) (K:PV→Prop):Prop :=
 match i with
 | .v (.int _ n) =>
   0 < z∧match kd with
   | .sli e =>
     (match x with
     | .sl fr sz c=>0 < (T e).size∧sz = (T e).size∧0 ≤ n∧n.toNat * sz < c.length∧K (.eref fr c (n.toNat * sz))
     | .own k ver=>(rw k).ver = ver∧match (rw k).kind with | .sli _ sz _ c=>0 < (T e).size∧sz = (T e).size∧0 ≤ n∧n.toNat * sz < c.length∧K (.ref k ver (n.toNat * sz)) | .tab _ c=>(T e).size = 1∧0 ≤ n∧n.toNat < c.length∧K (.ref k ver n.toNat) | _=>False
     | _=>False)
   | .arr len e=>zkM x = true∧0 < (T e).size∧0 ≤ n∧n < len∧zdu rw x (K (zd7 x (n.toNat * (T e).size)))
   | _=>False
 | _=>False
theorem zGl (t:TypeId) (x i:PV):zbn T rw t x i Kp = iaD T rw (T t).k (T t).size x i Kp:=(rfl)
theorem zGm {e:TypeId} {k:IntKind} (fr:Bool) (c:List PV) (n:Int) (h2:(T e).size = 1) :
 iaD T rw (.sli e) 1 (.sl fr 1 c) (.v (.int k n)) Kp = (0 ≤ n∧n < (c.length:Int)∧Kp (.eref fr c n.toNat)):=by
 simp only [iaD,h2,Nat.mul_one,true_and,Nat.one_pos]
 refine propext ⟨fun ⟨a,b,c⟩=>⟨a,by omega,c⟩,fun ⟨a,b,c⟩=>⟨a,by omega,c⟩⟩
def zv1 (r:Row) (j ver:Nat) (n:Int) (K:PV→Prop):Prop:=r.ver = ver∧match r.kind with | .sli _ sz _ c=>sz = 1∧0 ≤ n∧n < (c.length:Int)∧K (.ref j ver n.toNat) | .tab _ c=>0 ≤ n∧n < (c.length:Int)∧K (.ref j ver n.toNat) | _=>False
theorem zDo {e:TypeId} {k:IntKind} (j ver:Nat) (n:Int) (h2:(T e).size = 1) :
 iaD T rw (.sli e) 1 (.own j ver) (.v (.int k n)) Kp = zv1 (rw j) j ver n Kp:=by
 simp only [iaD,h2,zv1,true_and,Nat.one_pos]
 cases (rw j).kind <;> simp
 ·rintro _ rfl h
  rw [Nat.mul_one]
  exact ⟨fun ⟨a,b⟩=>⟨by omega,b⟩,fun ⟨a,b⟩=>⟨by omega,b⟩⟩
 ·intros;omega
theorem zyM {e:TypeId} {k:IntKind} (len z j ver off:Nat) (n:Int) (h2:(T e).size = 1):iaD T rw (.arr len e) (z + 1) (.ref j ver off) (.v (.int k n)) Kp = (0 ≤ n∧n < (len:Int)∧zdu rw (.ref j ver off) (kk (Kp (.ref j ver (off + n.toNat))))):=by
 simp only [iaD,h2,Nat.mul_one,Nat.zero_lt_succ,Nat.one_pos,true_and,zkM,zd7,kk]
theorem zDp [zad] {e:TypeId} {k:IntKind} (len z j ver off:Nat) (n:Int) (h2:(T e).size = 1):iaD T rw (.arr len e) (z + 1) (.ref j ver (off + 1)) (.v (.int k n)) Kp = (0 ≤ n∧n < (len:Int)∧zdu rw (.ref j ver (off + 1)) (kk (Kp (.ref j ver (off + 1 + n.toNat))))):=zyM _ _ _ _ _ _ h2
theorem zyN [zad] {e:TypeId} {k:IntKind} (len z j ver:Nat) (n:Int) (h2:(T e).size = 1):iaD T rw (.arr len e) (z + 1) (.ref j ver 0) (.v (.int k n)) Kp = (0 ≤ n∧n < (len:Int)∧zdu rw (.ref j ver 0) (kk (Kp (.ref j ver n.toNat)))):=by
 rw [zyM _ _ _ _ _ _ h2,Nat.zero_add]
theorem zp9 (j ver e:Nat) (c:List PV) (n:Int):zv1 ⟨ver,.tab e c⟩ j ver n Kp = (0 ≤ n∧n < (c.length:Int)∧Kp (.ref j ver n.toNat)):=by simp [zv1]
theorem zqa (j ver e:Nat) (fz:Bool) (c:List PV) (n:Int):zv1 ⟨ver,.sli e 1 fz c⟩ j ver n Kp = (0 ≤ n∧n < (c.length:Int)∧Kp (.ref j ver n.toNat)):=by simp [zv1]
theorem zeQ {α:Type} (f:α→PV) (d:α) (xs:List α) {t:TypeId} {m:Md} (o:Nat) (g:α→PV) (hg:∀ x,m.fix (f x) = g x) (h0:(T t).k.agg = false) (h1:0 < (T t).size) :
 ldK T t m (xs.map f) o Kp = (o < xs.length∧Kp (g (xs.getD o d))):=by
 simp only [ldK,h0,h1,true_and,List.length_map]
 refine propext ⟨fun ⟨a,b⟩=>⟨a,?_⟩,fun ⟨a,b⟩=>⟨a,?_⟩⟩
 ·have e:(xs.map f).getD o .junk = f xs[o]:=by simp [List.getD,a]
  have e2:xs.getD o d = xs[o]:=by simp [List.getD,a]
  rw [e,hg] at b
  rw [e2]
  exact b
 ·have e:(xs.map f).getD o .junk = f xs[o]:=by simp [List.getD,a]
  have e2:xs.getD o d = xs[o]:=by simp [List.getD,a]
  rw [e,hg]
  rw [e2] at b
  exact b
theorem zv2 (m:Md) (v:Value):m.fix (.v v) = .v v:=by cases m <;> rfl
theorem zDq (fr f:Bool) (sz:Nat) (c:List PV):(Md.set fr).fix (.sl f sz c) = .sl fr sz c:=(rfl)
theorem zt5 (p:PV):Md.asis.fix p = p:=(rfl)
theorem zGn [zad] (xs:List Int) {t:TypeId} {m:Md} (o:Nat) (h0:(T t).k.agg = false) (h1:0 < (T t).size):ldK T t m (iL xs) o Kp = (o < xs.length∧Kp (.v (.int .i64 (xs.getD o 0)))) :=
 zeQ _ 0 xs o _ (fun x=>zv2 m _) h0 h1
theorem zGo [zad] (k:IntKind) (xs:List Int) {t:TypeId} {m:Md} (o:Nat) (h0:(T t).k.agg = false) (h1:0 < (T t).size):ldK T t m (kL k xs) o Kp = (o < xs.length∧Kp (.v (.int k (xs.getD o 0)))) :=
 zeQ _ 0 xs o _ (fun x=>zv2 m _) h0 h1
theorem zGp [zad] (xs:List Bool) {t:TypeId} {m:Md} (o:Nat) (h0:(T t).k.agg = false) (h1:0 < (T t).size):ldK T t m (bL xs) o Kp = (o < xs.length∧Kp (.v (.bool (xs.getD o false)))) :=
 zeQ _ false xs o _ (fun x=>zv2 m _) h0 h1
theorem zGq [zad] (xs:List ByteArray) {t:TypeId} {m:Md} (o:Nat) (h0:(T t).k.agg = false) (h1:0 < (T t).size):ldK T t m (sL xs) o Kp = (o < xs.length∧Kp (.v (.string (xs.getD o ⟨#[]⟩)))) :=
 zeQ (fun n=>PV.v (.string n)) ⟨#[]⟩ xs o (fun n=>PV.v (.string n)) (fun x=>zv2 m _) h0 h1
theorem zDr [zad] (xs:List (List Int)) {t:TypeId} {fr:Bool} (o:Nat) (h0:(T t).k.agg = false) (h1:0 < (T t).size):ldK T t (.set fr) (iLL xs) o Kp = (o < xs.length∧Kp (.sl fr 1 (iL (xs.getD o [])))) :=
 zeQ _ [] xs o (fun r=>.sl fr 1 (iL r)) (fun x=>rfl) h0 h1
theorem zGr {t:TypeId} {m:Md} (p:PV) (c:List PV) (h0:(T t).k.agg = false) (h1:0 < (T t).size):ldK T t m (p :: c) 0 Kp = evK (m.fix p) Kp:=by simp [ldK,h0,h1,evK]
theorem zGs {t:TypeId} {m:Md} (p q:PV) (c:List PV) (h0:(T t).k.agg = false) (h1:0 < (T t).size):ldK T t m (p :: q :: c) 1 Kp = evK (m.fix q) Kp:=by simp [ldK,h0,h1,evK]
theorem zGt {t:TypeId} {m:Md} (p q r:PV) (c:List PV) (h0:(T t).k.agg = false) (h1:0 < (T t).size):ldK T t m (p :: q :: r :: c) 2 Kp = evK (m.fix r) Kp:=by simp [ldK,h0,h1,evK]
theorem zGu {t:TypeId} {m:Md} (p q r s:PV) (c:List PV) (h0:(T t).k.agg = false) (h1:0 < (T t).size):ldK T t m (p :: q :: r :: s :: c) 3 Kp = evK (m.fix s) Kp:=by simp [ldK,h0,h1,evK]
theorem zyO {t:TypeId} {m:Md} (p:PV) (c0:List PV) (o:Nat) (h0:(T t).k.agg = true) (h1:0 < (T t).size):ldK T t m (p :: c0) o Kp = (o + (T t).size ≤ (p :: c0).length∧evK (.ag ((((p :: c0).drop o).take (T t).size).map m.fix)) Kp):=by simp [ldK,h0,h1,evK]
def zt6 (T:Tab) (kd:TK) (z:Nat) (f:Nat) (K:Nat→TypeId→Prop):Prop :=
 0 < z∧match kd with | .struct fs=>(match fs[f]? with | some (o,ft)=>0 < (T ft).size∧K o ft | none=>False) | _=>False
def zGv (T:Tab) (x:Option (Nat × TypeId)) (K:Nat→TypeId→Prop):Prop:=match x with | some (o,ft)=>0 < (T ft).size∧K o ft | none=>False
theorem zt7 (t:TypeId) (f:Nat) (Kf:Nat→TypeId→Prop):zdQ T t f Kf = zt6 T (T t).k (T t).size f Kf:=(rfl)
theorem zeR (fs:List (Nat × TypeId)) (z f:Nat) (Kf:Nat→TypeId→Prop):zt6 T (.struct fs) (z + 1) f Kf = zGv T fs[f]? Kf:=by simp only [zt6,zGv,Nat.zero_lt_succ,true_and]
theorem zqb (o:Nat) (ft:TypeId) (Kf:Nat→TypeId→Prop) (h:0 < (T ft).size):zGv T (some (o,ft)) Kf = Kf o ft:=by simp [zGv,h]
theorem zg0 [zad] (fs:List (Nat × TypeId)) (f:Nat) (Kf:Nat→TypeId→Prop):zt6 T (.struct fs) 2 f Kf = zGv T fs[f]? Kf:=zeR fs 1 f Kf
theorem zqc (fr:Bool) (c:List PV) (o:Nat) (A:Prop):zdu rw (.eref fr c o) (kk A) = A:=(rfl)
theorem zt8 (f:FuncId) (c:List PV) (A:Prop):zdu rw (.clo f c) (kk A) = A:=(rfl)
def zhH (r:Row) (ver:Nat) (A:Prop):Prop:=r.ver = ver∧r.kind.nd = true∧A
theorem zt9 (j ver o:Nat) (A:Prop):zdu rw (.ref j ver o) A = zhH (rw j) ver A:=(rfl)
theorem zj8 (ver:Nat) (bt:TypeId) (c:List PV) (A:Prop):zhH ⟨ver,.box bt c⟩ ver (kk A) = A:=by simp [zhH,RK.nd,kk]
theorem zqd (j v o:Nat):zkM (.ref j v o) = true:=(rfl)
theorem zmJ (fr:Bool) (c:List PV) (o:Nat):zkM (.eref fr c o) = true:=(rfl)
theorem zqe (j v o d:Nat):zd7 (.ref j v o) d = .ref j v (o + d):=(rfl)
theorem zmK (fr:Bool) (c:List PV) (o d:Nat):zd7 (.eref fr c o) d = .eref fr c (o + d):=(rfl)
def zEj (kd kd2:TK) (x:PV) (K:PV→Prop):Prop:=match kd,kd2,x with
 | .int _,.int k,.v (.int _ n)=>K (.v (.int k (k.wrap n)))
 | .str,.str,.v (.string s)=>K (.v (.string s))
 | _,_,_=>False
theorem zua {a b:TypeId} {k:IntKind} (n:Int) (h1:(T a).k.isInt = true) (h2:(T b).k.isInt = true) (h3:0 < (T a).size) (h4:0 < (T b).size):zfP T rw a b (.v (.int k n)) Kp = zEj (T a).k (T b).k (.v (.int k n)) Kp:=by
 revert h1 h2
 simp only [zfP,zEj,h3,h4,true_and]
 cases (T a).k <;> simp [TK.isInt]
 cases (T b).k <;> simp [TK.isInt]
theorem zqf (k1 k2 k:IntKind) (n:Int):zEj (.int k1) (.int k2) (.v (.int k n)) Kp = Kp (.v (.int k2 (k2.wrap n))):=(rfl)
theorem zub {a b:TypeId} (n:ByteArray) (h1:(T a).k = .str) (h2:(T b).k = .str) (h3:0 < (T a).size) (h4:0 < (T b).size):zfP T rw a b (.v (.string n)) Kp = Kp (.v (.string n)):=by
 simp [zfP,h1,h2,h3,h4]
theorem zqg {t:TypeId} {k:IntKind} (b:ByteArray) (n:Int) (h0:(T t).k = .str) (h1:0 < (T t).size):ztC T t (.v (.string b)) (.v (.int k n)) Kp = (0 ≤ n∧n.toNat < b.size∧Kp (.v (.int .u8 ((b.data.toList.getD n.toNat 0).toNat:Int)))):=by
 simp [ztC,h0,h1]
theorem zmL (k k':IntKind) (a b:Int):zcB true (.v (.int k a)) (.v (.int k' b)) Kp = Kp (.v (.int k (if b > a then b else a))):=(rfl)
theorem zmM (k k':IntKind) (a b:Int):zcB false (.v (.int k a)) (.v (.int k' b)) Kp = Kp (.v (.int k (if b < a then b else a))):=(rfl)
def zr1 (p:PV) (K:Int→Prop):Prop:=match p with | .v (.int _ n)=>K n | _=>False
theorem zuc (k:IntKind) (n:Int) (Ki:Int→Prop):zr1 (.v (.int k n)) Ki = Ki n:=(rfl)
def znS (T:Tab) (rw:Nat→Row) (ev:Operand→PV) (kd:TK) (z:Nat) (x:PV) (lo hi mx:Option Operand) (K:PV→Prop):Prop :=
 0 < z∧match kd with
 | .str=>mx = none∧(match x with
  | .v (.string s)=>zlB ev lo 0 fun l=>zlB ev hi s.size fun h=>0 ≤ l∧l ≤ h∧h ≤ s.size∧K (.v (.string (s.extract l.toNat h.toNat)))
  | _=>False)
 | .sli e=>zgd rw x fun fr sz c=>0 < (T e).size∧sz = (T e).size ∧
  zlB ev lo 0 fun l=>zlB ev hi ((c.length / sz:Nat):Int) fun h=>zlB ev mx ((c.length / sz:Nat):Int) fun m=>0 ≤ l∧l ≤ h∧h ≤ m∧m ≤ ((c.length / sz:Nat):Int)∧(hi = none→mx = none) ∧
   K (.sl fr sz ((c.take (h.toNat * sz)).drop (l.toNat * sz)))
 | _=>False
theorem zDs (t:TypeId) (ev:Operand→PV) (x:PV) (lo hi mx:Option Operand):zbv T rw ev t x lo hi mx Kp = znS T rw ev (T t).k (T t).size x lo hi mx Kp:=(rfl)
theorem zud {e:TypeId} (fr:Bool) (c:List PV) (x:Operand) (h2:(T e).size = 1):znS T rw s.ev (.sli e) 1 (.sl fr 1 c) (some x) none none Kp = zr1 (s.ev x) (kk fun l=>0 ≤ l∧l ≤ (c.length:Int)∧Kp (.sl fr 1 (c.drop l.toNat))):=by
 simp only [znS,zgd,zlB,h2,zr1,kk]
 cases s.ev x <;> simp
 rename_i v
 cases v <;> simp
theorem zue {e:TypeId} (fr:Bool) (c:List PV) (x:Operand) (h2:(T e).size = 1):znS T rw s.ev (.sli e) 1 (.sl fr 1 c) none (some x) none Kp = zr1 (s.ev x) (kk fun l=>0 ≤ l∧l ≤ (c.length:Int)∧Kp (.sl fr 1 (c.take l.toNat))):=by
 simp only [znS,zgd,zlB,h2,zr1,kk]
 cases s.ev x <;> simp
 rename_i v
 cases v <;> simp
theorem zuf {e:TypeId} (fr:Bool) (c:List PV) (x y:Operand) (h2:(T e).size = 1):znS T rw s.ev (.sli e) 1 (.sl fr 1 c) (some x) (some y) none Kp = zr1 (s.ev x) (kk fun l=>zr1 (s.ev y) (kk fun h=>0 ≤ l∧l ≤ h∧h ≤ (c.length:Int)∧Kp (.sl fr 1 ((c.take h.toNat).drop l.toNat)))):=by
 simp only [znS,zgd,zlB,h2,zr1,kk]
 cases s.ev x <;> simp
 rename_i v
 cases v <;> simp
 rename_i q n
 cases s.ev y <;> try simp
 rename_i v
 cases v <;> try simp
theorem zyP {e:TypeId} (fr:Bool) (c:List PV) (h2:(T e).size = 1):znS T rw s.ev (.sli e) 1 (.sl fr 1 c) none none none Kp = Kp (.sl fr 1 c):=by
 simp only [znS,zgd,zlB,h2]
 simp
theorem zug (b:ByteArray) (x:Operand):znS T rw s.ev .str 1 (.v (.string b)) (some x) none none Kp = zr1 (s.ev x) (kk fun l=>0 ≤ l∧l ≤ (b.size:Int)∧Kp (.v (.string (b.extract l.toNat b.size)))):=by
 simp only [znS,zlB,zr1,kk]
 cases s.ev x <;> simp
 rename_i v
 cases v <;> simp
theorem zuh (b:ByteArray) (x:Operand):znS T rw s.ev .str 1 (.v (.string b)) none (some x) none Kp = zr1 (s.ev x) (kk fun h=>0 ≤ h∧h ≤ (b.size:Int)∧Kp (.v (.string (b.extract 0 h.toNat)))):=by
 simp only [znS,zlB,zr1,kk]
 cases s.ev x <;> simp
 rename_i v
 cases v <;> simp
theorem zui (b:ByteArray) (x y:Operand):znS T rw s.ev .str 1 (.v (.string b)) (some x) (some y) none Kp = zr1 (s.ev x) (kk fun l=>zr1 (s.ev y) (kk fun h=>0 ≤ l∧l ≤ h∧h ≤ (b.size:Int)∧Kp (.v (.string (b.extract l.toNat h.toNat))))):=by
 simp only [znS,zlB,zr1,kk]
 cases s.ev x <;> simp
 rename_i v
 cases v <;> simp
 rename_i q n
 cases s.ev y <;> try simp
 rename_i v
 cases v <;> try simp
def zuj (T:Tab) (r:Row) (k ver:Nat) (ev:Operand→PV) (e z:Nat) (rw:Nat→Row) (lo hi mx:Option Operand) (K:PV→Prop):Prop :=
 k < 1000000∧r.ver = ver∧match r.kind with | .sli _ sz true c=>znS T rw ev (.sli e) z (.sl true sz c) lo hi mx K | _=>False
theorem zyQ (e z k ver:Nat) (lo hi mx:Option Operand):znS T rw s.ev (.sli e) z (.own k ver) lo hi mx Kp = zuj T (rw k) k ver s.ev e z rw lo hi mx Kp:=by
 have el:(k < lent) = (k < 1000000):=rfl
 simp only [znS,zgd,zuj,el]
 cases (rw k).kind with
 | sli e' sz fz c =>
   cases fz <;> simp
   refine ⟨fun ⟨a,b,c,d,h⟩=>⟨b,c,a,d,h⟩,fun ⟨b,c,a,d,h⟩=>⟨a,b,c,d,h⟩⟩
 | _=>simp
theorem zmN (e z k ver e' sz:Nat) (rw':Nat→Row) (c:List PV) (lo hi mx:Option Operand):zuj T ⟨ver,.sli e' sz true c⟩ k ver s.ev e z rw' lo hi mx Kp = (k < 1000000∧znS T rw' s.ev (.sli e) z (.sl true sz c) lo hi mx Kp):=by simp [zuj]
theorem zyR {Kf:List Nat→PV→Prop} (t:TypeId) (fr:Bool) (z:Nat) (c:List PV) (lo hi mx:Option Operand):zFx T s t (.sl fr z c) lo hi mx (kk Kf) = zbv T s.rw s.ev t (.sl fr z c) lo hi mx (kk fun p=>Kf [] p):=(rfl)
theorem zDt {Kf:List Nat→PV→Prop} (t:TypeId) (x:Value) (lo hi mx:Option Operand):zFx T s t (.v x) lo hi mx (kk Kf) = zbv T s.rw s.ev t (.v x) lo hi mx (kk fun p=>Kf [] p):=(rfl)
def zyS (T:Tab) (s:St) (t:TypeId) (r:Row) (k ver:Nat) (lo hi mx:Option Operand) (K:List Nat→PV→Prop):Prop :=
 match r.kind with
 | .sli _ _ false _=>zbv T (s.freeze [k]).rw s.ev t (.own k ver) lo hi mx (kk fun p=>K [k] p)
 | _=>zbv T s.rw s.ev t (.own k ver) lo hi mx (kk fun p=>K [] p)
theorem zuk {Kf:List Nat→PV→Prop} (t:TypeId) (k ver:Nat) (lo hi mx:Option Operand):zFx T s t (.own k ver) lo hi mx (kk Kf) = zyS T s t (s.rw k) k ver lo hi mx (kk Kf):=(rfl)
theorem zj9 {Kf:List Nat→PV→Prop} (t:TypeId) (v e z:Nat) (c:List PV) (k ver:Nat) (lo hi mx:Option Operand):zyS T s t ⟨v,.sli e z false c⟩ k ver lo hi mx (kk Kf) = zbv T (s.freeze [k]).rw s.ev t (.own k ver) lo hi mx (kk fun p=>Kf [k] p):=(rfl)
theorem zqh {Kf:List Nat→PV→Prop} (t:TypeId) (v e z:Nat) (c:List PV) (k ver:Nat) (lo hi mx:Option Operand):zyS T s t ⟨v,.sli e z true c⟩ k ver lo hi mx (kk Kf) = zbv T s.rw s.ev t (.own k ver) lo hi mx (kk fun p=>Kf [] p):=(rfl)
theorem zyT {Kc:List PV→Prop} (x:Value) (h:x.oneCell' = true):zaS rw (.v x) Kc = Kc [.v x]:=by simp [zaS,h]
theorem zul {Kc:List PV→Prop} (c:List PV):zaS rw (.ag c) Kc = Kc c:=(rfl)
theorem zum {Kc:List PV→Prop} (fr:Bool) (sz:Nat) (c:List PV):zaS rw (.sl fr sz c) Kc = Kc [.sl fr sz c]:=(rfl)
theorem zqi {Kc:List PV→Prop} (f:FuncId) (c:List PV):zaS rw (.clo f c) Kc = Kc [.clo f c]:=(rfl)
def zka (r:Row) (ver:Nat) (A:Prop):Prop:=r.ver = ver∧r.kind.slice = true∧A
theorem zqj {Kc:List PV→Prop} (j ver:Nat):zaS rw (.own j ver) Kc = zka (rw j) ver (kk (Kc [.own j ver])):=(rfl)
theorem zmO (ver e sz:Nat) (fz:Bool) (c:List PV) (A:Prop):zka ⟨ver,.sli e sz fz c⟩ ver (kk A) = A:=by simp [zka,RK.slice,kk]
theorem zmP (ver e:Nat) (c:List PV) (A:Prop):zka ⟨ver,.tab e c⟩ ver (kk A) = A:=by simp [zka,RK.slice,kk]
theorem zqk {Kc:List PV→Prop} (j ver o:Nat):zaS rw (.ref j ver o) Kc = zhH (rw j) ver (kk (Kc [.ref j ver o])):=(rfl)
theorem zDu {Kc:List PV→List Nat→Prop} (x:Value) (h:x.oneCell' = true):zcT rw (.v x) Kc = Kc [.v x] []:=by simp [zcT,h]
theorem zyU {Kc:List PV→List Nat→Prop} (sz:Nat) (c:List PV):zcT rw (.sl true sz c) Kc = Kc [.sl false sz c] []:=by simp [zcT]
theorem zyV {Kc:List PV→List Nat→Prop} (c:List PV):zcT rw (.ag c) Kc = ((∀ x ∈ c,isV x = true)∧Kc c []):=(rfl)
def zr2 (r:Row) (k ver:Nat) (K:List PV→List Nat→Prop):Prop:=r.ver = ver∧k < lent∧(match r.kind with | .nil=>K [.sl false 1 []] [] | .sli _ sz _ c=>K [.sl false sz c] [k] | _=>False)
theorem zun {Kc:List PV→List Nat→Prop} (j ver:Nat):zcT rw (.own j ver) Kc = zr2 (rw j) j ver Kc:=(rfl)
theorem zkb {Kc:List PV→List Nat→Prop} (j ver e sz:Nat) (fz:Bool) (c:List PV) (h:j < lent):zr2 ⟨ver,.sli e sz fz c⟩ j ver Kc = Kc [.sl false sz c] [j]:=by simp [zr2,h]
def zuo (rw:Nat→Row) (l:List PV):Prop:=∀ p ∈ l,zlA rw p
theorem zyW (rw:Nat→Row) (l:List PV):(∀ p ∈ l,zlA rw p) = zuo rw l:=(rfl)
theorem zup (rw:Nat→Row):zuo rw [] = True:=by simp [zuo]
theorem zql (rw:Nat→Row) (p:PV) (l:List PV):zuo rw (p :: l) = (zlA rw p∧zuo rw l):=by simp [zuo]
def zeS (s:St) (z j ver off:Nat) (r:Row) (x:PV) (K:St→Prop):Prop:=0 < z∧r.ver = ver∧match r.kind with
 | .box bt c=>zaS s.rw x fun new=>new.length = z∧off + new.length ≤ c.length∧zuo s.rw new∧K (s.row j ⟨ver,.box bt (spl c off new)⟩)
 | .sli e sz false c=>zcT s.rw x fun new fz=>new.length = z∧off + new.length ≤ c.length∧j ∉ fz∧K ((s.freeze fz).row j ⟨ver,.sli e sz false (spl c off new)⟩)
 | .tab e c=>zaS s.rw x fun new=>new.length = z∧off + new.length ≤ c.length∧zuo s.rw new∧K (s.row j ⟨ver,.tab e (spl c off new)⟩)
 | _=>False
theorem zqm (j ver off e:Nat) (c:List PV) (x:PV):zeS s 1 j ver off ⟨ver,.tab e c⟩ x K = zaS s.rw x (kk fun new=>new.length = 1∧off + new.length ≤ c.length∧zuo s.rw new∧K (s.row j ⟨ver,.tab e (spl c off new)⟩)):=by
 simp only [zeS,Nat.one_pos,true_and,kk]
theorem zuq (t:TypeId) (j ver off:Nat) (x:PV):zrb T s t (.ref j ver off) x K = zeS s (T t).size j ver off (s.rw j) x K:=(rfl)
theorem zkc [zad]:s.freeze [] = s:=St.freeze_nil s
theorem zqn (j ver off e sz:Nat) (c:List PV) (x:PV):zeS s 1 j ver off ⟨ver,.sli e sz false c⟩ x K = zcT s.rw x (kk fun new fz=>new.length = 1∧off + new.length ≤ c.length∧j ∉ fz∧K ((s.freeze fz).row j ⟨ver,.sli e sz false (spl c off new)⟩)):=by
 simp only [zeS,Nat.one_pos,true_and,kk]
theorem zg1 (z j ver off:Nat) (bt:TypeId) (c:List PV) (x:PV):zeS s (z + 1) j ver off ⟨ver,.box bt c⟩ x K = zaS s.rw x (kk fun new=>new.length = z + 1∧off + new.length ≤ c.length∧zuo s.rw new∧K (s.row j ⟨ver,.box bt (spl c off new)⟩)):=by
 simp only [zeS,Nat.zero_lt_succ,true_and,kk]
theorem zmQ [zad] (j ver off:Nat) (bt:TypeId) (c:List PV) (x:PV):zeS s 1 j ver off ⟨ver,.box bt c⟩ x K = zaS s.rw x (kk fun new=>new.length = 1∧off + new.length ≤ c.length∧zuo s.rw new∧K (s.row j ⟨ver,.box bt (spl c off new)⟩)):=zg1 0 j ver off bt c x
theorem zmR [zad] (j ver off:Nat) (bt:TypeId) (c:List PV) (x:PV):zeS s 2 j ver off ⟨ver,.box bt c⟩ x K = zaS s.rw x (kk fun new=>new.length = 2∧off + new.length ≤ c.length∧zuo s.rw new∧K (s.row j ⟨ver,.box bt (spl c off new)⟩)):=zg1 1 j ver off bt c x
theorem zDv (rw:Nat→Row) (v:Value):zlA rw (.v v) = (v.oneCell' = true):=(rfl)
theorem zyX (rw:Nat→Row) (fr:Bool) (z:Nat) (c:List PV):zlA rw (.sl fr z c) = True:=(rfl)
theorem zqo (rw:Nat→Row) (fr:Bool) (c:List PV) (o:Nat):zlA rw (.eref fr c o) = True:=(rfl)
theorem zur (rw:Nat→Row) (f:FuncId) (c:List PV):zlA rw (.clo f c) = True:=(rfl)
theorem zus (rw:Nat→Row) (j v:Nat):zlA rw (.own j v) = zka (rw j) v (kk True):=by simp [zlA,zka,kk]
theorem zut (rw:Nat→Row) (j v o:Nat):zlA rw (.ref j v o) = zhH (rw j) v (kk True):=by simp [zlA,zhH,kk]
theorem zmS [zad] (j ver off:Nat) (bt:TypeId) (c:List PV) (x:PV):zeS s 3 j ver off ⟨ver,.box bt c⟩ x K = zaS s.rw x (kk fun new=>new.length = 3∧off + new.length ≤ c.length∧zuo s.rw new∧K (s.row j ⟨ver,.box bt (spl c off new)⟩)):=zg1 2 j ver off bt c x
theorem zmT [zad] (j ver off:Nat) (bt:TypeId) (c:List PV) (x:PV):zeS s 4 j ver off ⟨ver,.box bt c⟩ x K = zaS s.rw x (kk fun new=>new.length = 4∧off + new.length ≤ c.length∧zuo s.rw new∧K (s.row j ⟨ver,.box bt (spl c off new)⟩)):=zg1 3 j ver off bt c x
def zkd (T:Tab) (rw:Nat→Row) (y:PV) (K:List PV→Prop):Prop:=slK rw y fun fr sz news=>sz = 1∧((∀ p ∈ news,isV p = true) ∨ (fr = true∧∀ p ∈ news,zrS p = true))∧K news
def zke (T:Tab) (s:St) (d j ver e:Nat) (r:Row) (news:List PV) (K:St→Prop):Prop:=r.ver = ver∧match r.kind with
 | .nil=>news.length * (T e).bytes ≤ 140737488355328∧K (zdb s d j (.sli e 1 false news))
 | .sli e' sz' false c=>e' = e∧sz' = 1∧(c.length + news.length) * (T e).bytes ≤ 140737488355328∧K (zdb s d j (.sli e 1 false (c ++ news)))
 | _=>False
def zGw (T:Tab) (s:St) (d e:Nat) (x:PV) (news:List PV) (K:St→Prop):Prop:=match x with
 | .v u=>zdV u = true∧news.length * (T e).bytes ≤ 140737488355328∧K (zcU s d (.sli e 1 false news) (fun v=>.own d v))
 | .own j ver=>zke T s d j ver e (s.rw j) news K
 | _=>False
def zHv (T:Tab) (s:St) (d:Nat) (kd:TK) (z:Nat) (x y:PV) (K:St→Prop):Prop :=
 0 < z∧match kd with
 | .sli e=>0 < (T e).size∧0 < (T e).bytes∧slK s.rw y fun fr sz news=>sz = (T e).size∧((∀ p ∈ news,isV p = true) ∨ (fr = true∧∀ p ∈ news,zrS p = true)) ∧
  (match x with
  | .v u=>zdV u = true∧news.length * (T e).bytes ≤ 140737488355328∧K (zcU s d (.sli e (T e).size false news) (fun v=>.own d v))
  | .own k ver=>(s.rw k).ver = ver∧(match (s.rw k).kind with
   | .nil=>news.length * (T e).bytes ≤ 140737488355328∧K (zdb s d k (.sli e (T e).size false news))
   | .sli e' sz' false c=>e' = e∧sz' = (T e).size∧(c.length + news.length) * (T e).bytes ≤ 140737488355328∧K (zdb s d k (.sli e (T e).size false (c ++ news)))
   | _=>False)
  | _=>False)
 | _=>False
theorem zqp (d:Nat) (t:TypeId) (x y:PV):zkE T s d t t x y K = zHv T s d (T t).k (T t).size x y K:=propext ⟨fun h=>h.2,fun h=>⟨rfl,h⟩⟩
theorem zuu {d e:Nat} (x y:PV) (h2:(T e).size = 1) (h3:0 < (T e).bytes):zHv T s d (.sli e) 1 x y K = zkd T s.rw y (kk fun news=>zGw T s d e x news (kk K)):=by
 unfold zHv zkd
 simp only [h2,h3,true_and,kk,Nat.one_pos]
 unfold zGw zke
 cases x <;> rfl
theorem zuv (d e j ver:Nat) (news:List PV):zGw T s d e (.own j ver) news K = zke T s d j ver e (s.rw j) news K:=(rfl)
theorem zuw (d e:Nat) (news:List PV):zGw T s d e (.v (.slice none 0 0)) news K = (news.length * (T e).bytes ≤ 140737488355328∧K (zcU s d (.sli e 1 false news) (fun v=>.own d v))):=by simp [zGw,zdV]
theorem zmU (d j ver e:Nat) (c news:List PV):zke T s d j ver e ⟨ver,.sli e 1 false c⟩ news K = ((c.length + news.length) * (T e).bytes ≤ 140737488355328∧K (zdb s d j (.sli e 1 false (c ++ news)))):=by simp [zke]
theorem zmV (d j ver e:Nat) (news:List PV):zke T s d j ver e ⟨ver,.nil⟩ news K = (news.length * (T e).bytes ≤ 140737488355328∧K (zdb s d j (.sli e 1 false news))):=by simp [zke]
variable {Kc:List PV→Prop}
theorem zyY (c:List PV) (h:∀ p ∈ c,isV p = true) (fr:Bool):zkd T rw (.sl fr 1 c) Kc = Kc c:=by
 have e:(∀ p ∈ c,isV p = true) = True:=eq_true h
 simp only [zkd,slK,e,true_or,true_and]
theorem zyZ [zad] (xs:List Int) (fr:Bool):zkd T rw (.sl fr 1 (iL xs)) Kc = Kc (iL xs):=zyY _ (by simpa using zxz xs) fr
theorem zy0 [zad] (k:IntKind) (xs:List Int) (fr:Bool):zkd T rw (.sl fr 1 (kL k xs)) Kc = Kc (kL k xs):=zyY _ (by simpa using zF1 k xs) fr
theorem zy1 [zad] (xs:List ByteArray) (fr:Bool):zkd T rw (.sl fr 1 (sL xs)) Kc = Kc (sL xs):=zyY _ (by simpa using zCP xs) fr
theorem zux [zad] (xs:List (List Int)):zkd T rw (.sl true 1 (iLL xs)) Kc = Kc (iLL xs):=by
 have:∀ p ∈ iLL xs,zrS p = true:=by simpa using zBu xs
 simp only [zkd,slK,true_and,true_or,eq_true this,or_true]
def zv3 (c:List PV):Prop:=∀ p ∈ c,zrS p = true
def zv4 (r:Row) (ver:Nat) (K:List PV→Prop):Prop:=r.ver = ver∧match r.kind with | .nil=>K [] | .sli _ sz _ c=>sz = 1∧zv3 c∧K c | _=>False
theorem zqq (j ver:Nat):zkd T rw (.own j ver) Kc = zv4 (rw j) ver Kc:=by
 unfold zkd slK zv4
 dsimp only
 generalize (rw j).kind = kd
 cases kd with
 | sli e sz fz c =>
   dsimp only
   refine propext ⟨fun ⟨a,b,h,d⟩=>⟨a,b,?_,d⟩,fun ⟨a,b,h,d⟩=>⟨a,b,.inr ⟨rfl,h⟩,d⟩⟩
   rcases h with h | h
   ·intro p hp
    have:=h p hp
    cases p <;> simp [isV] at this
    exact this
   ·exact h.2
 | nil=>simp
 | _=>simp
theorem zqr (ver e:Nat) (fz:Bool) (c:List PV):zv4 ⟨ver,.sli e 1 fz c⟩ ver Kc = (zv3 c∧Kc c):=by simp [zv4]
theorem zqs (ver:Nat):zv4 ⟨ver,.nil⟩ ver Kc = Kc []:=by simp [zv4]
theorem zuy:zv3 [] = True:=by simp [zv3]
theorem zy2 (xs:List Int):zv3 (iL xs) = True:=by simp [zv3,iL,zrS,Value.oneCell']
theorem zy3 (k:IntKind) (xs:List Int):zv3 (kL k xs) = True:=by simp [zv3,kL,zrS,Value.oneCell']
theorem zy4 (xs:List ByteArray):zv3 (sL xs) = True:=by simp [zv3,sL,zrS,Value.oneCell']
theorem zy5 (xs:List Bool):zv3 (bL xs) = True:=eq_true fun p hp=>by
 simp only [bL,List.mem_map] at hp
 obtain ⟨x,_,rfl⟩:=hp
 rfl
theorem zuz (xs:List (List Int)):zv3 (iLL xs) = True:=by simp [zv3,iLL,zrS]
theorem zqt (j:Nat):[j].Nodup = True:=by simp
theorem zqu (i j:Nat):[i,j].Nodup = (i ≠ j):=by simp
theorem zy6 (j:Nat):(j < lent) = (j < 1000000):=(rfl)
theorem zGx (v u:Value) {Kn:List Nat→Prop}:znX rw (.v v) (.im (.v u)) Kn = (PV.v u = PV.v v∧Kn []):=(rfl)
def zqv (r:Row) (j ver e sz:Nat) (c:List PV) (K:List Nat→Prop):Prop:=j < lent∧r.ver = ver∧(match r.kind with
 | .nil=>c = []∧K []
 | .sli e' sz' false c'=>e' = e∧sz' = sz∧c' = c∧K [j]
 | _=>False)
theorem zy7 (j ver e sz:Nat) (c:List PV) {Kn:List Nat→Prop}:znX rw (.own j ver) (.fr e sz c) Kn = zqv (rw j) j ver e sz c Kn:=(rfl)
theorem zmW (j ver e sz:Nat) (c c':List PV) {Kn:List Nat→Prop} (h:j < lent):zqv ⟨ver,.sli e sz false c'⟩ j ver e sz c Kn = (c' = c∧Kn [j]):=by simp [zqv,h]
theorem zuA {t:Nat} {rv:RV}:zv6 T s [.tmp t] rv = znX s.rw (s.sl t) rv List.Nodup:=(rfl)
theorem zqw {a:Nat} {t:TypeId} {rv:RV}:zv6 T s [.cell a t] rv = zrT s.rw (s.sl a) (kk fun m c off=>ldK T t m c off (kk fun p=>znX s.rw p rv List.Nodup)):=(rfl)
theorem zuB {r1 r2:ResultVar} {rv:RV}:zv6 T s [r1,r2] rv = zv5 T s [r1,r2] (kk fun ps=>znX s.rw (.tup ps) rv List.Nodup):=(rfl)
theorem zmX {r1 r2 r3:ResultVar} {rv:RV}:zv6 T s [r1,r2,r3] rv = zv5 T s [r1,r2,r3] (kk fun ps=>znX s.rw (.tup ps) rv List.Nodup):=(rfl)
theorem zuC (Kr:List PV→Prop):zv5 T s [] (kk Kr) = Kr []:=(rfl)
theorem zuD (t:Nat) (rs:List ResultVar) (Kr:List PV→Prop):zv5 T s (.tmp t :: rs) (kk Kr) = evK (s.sl t) (kk fun p=>zv5 T s rs (kk fun ps=>Kr (p :: ps))):=(rfl)
theorem zqx (a:Nat) (t:TypeId) (rs:List ResultVar) (Kr:List PV→Prop):zv5 T s (.cell a t :: rs) (kk Kr) = zrT s.rw (s.sl a) (kk fun m c off=>ldK T t m c off (kk fun p=>zv5 T s rs (kk fun ps=>Kr (p :: ps)))):=(rfl)
theorem zuE (e sz:Nat) (c:List PV) {Kn:List Nat→Prop}:znX rw (.v (.slice none 0 0)) (.fr e sz c) Kn = (c = []∧Kn []):=by simp [znX,ziP,zdV]
theorem zuF (e sz:Nat) (c:List PV) {Kn:List Nat→Prop}:zzj rw (.v (.slice none 0 0)) (.fr e sz c) Kn = (c = []∧Kn []):=by simp [zzj,ziP,zdV]
theorem zuG (e sz:Nat) (c:List PV) {Kn:List Nat→Prop}:ziP rw (.v (.slice none 0 0)) (.fr e sz c) Kn = (c = []∧Kn []):=by simp [ziP,zdV]
theorem zmY [zad] (d e sz:Nat) (y:Value) (c:List PV):zai s d (.tup [.ag [.fr e sz c],.im (.v y)]) = (s.row d ⟨(s.rw d).ver + 1,.sli e sz false c⟩).put (some d) (.tup [.ag [.own d ((s.rw d).ver + 1)],.v y]):=by
 unfold zai
 simp [zbu,zcb,leaves,zas,zaQ,zbL,zbB,za9,zah,St.row,zhe]
 rfl
theorem zmZ [zad] (d e sz:Nat) (x y:Value) (c:List PV):zai s d (.tup [.ag [.im (.v x),.fr e sz c],.im (.v y)]) = (s.row d ⟨(s.rw d).ver + 1,.sli e sz false c⟩).put (some d) (.tup [.ag [.v x,.own d ((s.rw d).ver + 1)],.v y]):=by
 unfold zai
 simp [zbu,zcb,leaves,zas,zaQ,zbL,zbB,za9,zah,St.row,zhe]
 rfl
theorem zqy [zad] (d e sz:Nat) (y:Value) (c:List PV):zai s d (.tup [.ag [.fr e sz c],.im (.v y)]) = (s.row d ⟨(s.rw d).ver + 1,.sli e sz false c⟩).put (some d) (.tup [.ag [.own d ((s.rw d).ver + 1)],.v y]):=by
 unfold zai
 simp [zbu,zcb,leaves,zas,zaQ,zbL,zbB,za9,zah,St.row,zhe]
 rfl
theorem zdL (d:Nat) (v:Value):zai s d (.im (.v v)) = s.put (some d) (.v v):=by
 unfold zai
 simp [leaves,zas,zaQ,zbB,zhe]
theorem zuH [zad] {f:FuncId} {raw lent:List PV} {k d:Nat} {x:Value} {r:Row} {Ke:Ent→St→Prop} {Ka:RV→Prop} {us:Dm s} {u:Dm Ke} (rd:List Nat) (h:∀ s':St,s'.rw k = s.rw k→(∀ a ∈ rd,s'.rw a = s.rw a)→∀ K':St→Prop,K' ((s'.row k r).put (some d) (.v x))→askG P s' f raw (some d) K') (hd:d % 1000 ≠ k % 1000)
 (hk:Ke ⟨rd,.ids [d,k]⟩ ((s.row k r).put (some d) (.v x))):ziN P f lent Ka (zEg P f raw d (kk s us) (kk Ke u)) :=
 zBz (x:=.im (.v x)) (r:=r) rd (fun s' h1 h2 K' hk'=>h s' h1 h2 K' (by rw [zdL] at hk';exact hk')) hd (by rw [zdL];exact hk)
theorem zjd (d e sz:Nat) (c:List PV):zai s d (.fr e sz c) = (s.row d ⟨(s.rw d).ver + 1,.sli e sz false c⟩).put (some d) (.own d ((s.rw d).ver + 1)):=by
 unfold zai
 simp [leaves,zas,zaQ,zbB,zah,St.row]
 rfl
theorem zqz [zad] (d e sz:Nat) (c:List PV):zai s d (.ag [.fr e sz c]) = (s.row d ⟨(s.rw d).ver + 1,.sli e sz false c⟩).put (some d) (.ag [.own d ((s.rw d).ver + 1)]):=by
 unfold zai
 simp [zcb,leaves,zas,zaQ,zbL,za9,zbB,zah,St.row]
 rfl
theorem zqA [zad] (d e sz:Nat) (x:Value) (c:List PV):zai s d (.ag [.im (.v x),.fr e sz c]) = (s.row d ⟨(s.rw d).ver + 1,.sli e sz false c⟩).put (some d) (.ag [.v x,.own d ((s.rw d).ver + 1)]):=by
 unfold zai
 simp [zcb,leaves,zas,zaQ,zbL,za9,zbB,zah,St.row,zhe]
 rfl
theorem zqB [zad] (d e sz e2 sz2:Nat) (x y:Value) (c c2:List PV):zai s d (.ag [.im (.v x),.fr e sz c,.im (.v y),.fr e2 sz2 c2]) =
 ((s.row (d + 1000) ⟨(s.rw (d + 1000)).ver + 1,.sli e2 sz2 false c2⟩).row d ⟨(s.rw d).ver + 1,.sli e sz false c⟩).put (some d) (.ag [.v x,.own d ((s.rw d).ver + 1),.v y,.own (d + 1000) ((s.rw (d + 1000)).ver + 1)]):=by
 unfold zai
 simp [zcb,leaves,zas,zaQ,zbL,za9,zbB,zah,St.row,zhe]
 rfl
theorem zqC [zad] (d:Nat) (x y:Value):zai s d (.tup [.im (.v x),.im (.v y)]) = s.put (some d) (.tup [.v x,.v y]):=by
 unfold zai
 simp [zbu,leaves,zas,zaQ,zbL,za9,zbB,zah,St.row,zhe]
theorem zqD [zad] (d e sz:Nat) (c:List PV) (y:Value):zai s d (.tup [.fr e sz c,.im (.v y)]) = (s.row d ⟨(s.rw d).ver + 1,.sli e sz false c⟩).put (some d) (.tup [.own d ((s.rw d).ver + 1),.v y]):=by
 unfold zai
 simp [zbu,leaves,zas,zaQ,zbL,za9,zbB,zah,St.row,zhe]
 rfl
theorem imm_ag [zad] (l:List RV):(RV.ag l).imm = .ag (l.map RV.imm):=RV.imm_ag l
theorem imm_tup [zad] (l:List RV):(RV.tup l).imm = .tup (l.map RV.imm):=RV.imm_tup l
theorem zy8 (ps:List PV) (l:List RV) {Kn:List Nat→Prop}:znX rw (.ag ps) (.ag l) Kn = zxc (zzj rw) ps l Kn:=(rfl)
theorem zuI (ps:List PV) (l:List RV) {Kn:List Nat→Prop}:znX rw (.tup ps) (.tup l) Kn = zxc (zzj rw) ps l Kn:=(rfl)
theorem zy9 (ps:List PV) (l:List RV) {Kn:List Nat→Prop}:zzj rw (.ag ps) (.ag l) Kn = zxc (ziP rw) ps l Kn:=(rfl)
theorem zuJ (f:PV→RV→(List Nat→Prop)→Prop) {Kn:List Nat→Prop}:zxc f [] [] Kn = Kn []:=(rfl)
theorem zqE (f:PV→RV→(List Nat→Prop)→Prop) (p:PV) (ps:List PV) (r:RV) (rs:List RV) {Kn:List Nat→Prop}:zxc f (p :: ps) (r :: rs) Kn = f p r (kk fun a=>zxc f ps rs (kk fun b=>Kn (a ++ b))):=(rfl)
theorem zDw (v u:Value) {Kn:List Nat→Prop}:zzj rw (.v v) (.im (.v u)) Kn = (PV.v u = PV.v v∧Kn []):=(rfl)
theorem zm0 (e e2:Nat) (rows:List (List PV)) {Kn:List Nat→Prop}:ziP rw (.v (.slice none 0 0)) (.tb e e2 rows) (kk Kn) = (rows = []∧Kn []):=by simp [ziP,zdV,kk]
theorem zDx (v u:Value) {Kn:List Nat→Prop}:ziP rw (.v v) (.im (.v u)) Kn = (PV.v u = PV.v v∧Kn []):=(rfl)
theorem zuK (j ver e sz:Nat) (c:List PV) {Kn:List Nat→Prop}:zzj rw (.own j ver) (.fr e sz c) Kn = zqv (rw j) j ver e sz c Kn:=(rfl)
theorem zuL (j ver e sz:Nat) (c:List PV) {Kn:List Nat→Prop}:ziP rw (.own j ver) (.fr e sz c) Kn = zqv (rw j) j ver e sz c Kn:=(rfl)
theorem zDy (v:Value):(RV.im (.v v)).imm = .v v:=by simp [RV.imm,zhe]
theorem zDz (e sz:Nat) (c:List PV):(RV.fr e sz c).imm = .sl true sz c:=by simp [RV.imm]
theorem zuM (rw:Nat→Row) (n:Nat) (k:IntKind) (x:Int):zck rw (n + 1) (.v (.int k x)) = .v (.int k x):=(rfl)
theorem zqF (rw:Nat→Row) (n:Nat) (x:Bool):zck rw (n + 1) (.v (.bool x)) = .v (.bool x):=(rfl)
theorem zkf (rw:Nat→Row) (n:Nat) (x:ByteArray):zck rw (n + 1) (.v (.string x)) = .v (.string x):=(rfl)
theorem zuN (rw:Nat→Row) (n:Nat):zck rw (n + 1) (.v (.slice none 0 0)) = .sl false 1 []:=(rfl)
theorem zza (rw:Nat→Row) (n:Nat) (fr:Bool) (sz:Nat) (c:List PV):zck rw (n + 1) (.sl fr sz c) = .sl false sz c:=(rfl)
theorem zzb (rw:Nat→Row) (n:Nat) (c:List PV):zck rw (n + 1) (.ag c) = .ag (c.map (zck rw n)):=(rfl)
theorem zqG (rw:Nat→Row) (n:Nat) (fr:Bool) (c:List PV) (o:Nat):zck rw (n + 1) (.eref fr c o) = .eref false c o:=(rfl)
def zkg (rw:Nat→Row) (n:Nat) (r:Row) (ver off:Nat):PV:=if r.ver = ver then (match r.kind with | .box _ c=>.eref false (c.map (zck rw n)) off | .sli _ _ _ c=>.eref false c off | _=>.junk) else .junk
theorem zuO (rw:Nat→Row) (n j ver off:Nat):zck rw (n + 1) (.ref j ver off) = zkg rw n (rw j) ver off:=(rfl)
theorem zkh (rw:Nat→Row) (n ver off:Nat) (t:TypeId) (c:List PV):zkg rw n ⟨ver,.box t c⟩ ver off = .eref false (c.map (zck rw n)) off:=by simp [zkg]
theorem zki (rw:Nat→Row) (n ver off e z:Nat) (fz:Bool) (c:List PV):zkg rw n ⟨ver,.sli e z fz c⟩ ver off = .eref false c off:=by simp [zkg]
theorem zuP (rw:Nat→Row) (n:Nat) (f:FuncId) (c:List PV):zck rw (n + 1) (.clo f c) = .clo f (c.map (zck rw n)):=(rfl)
def zga (rw:Nat→Row) (n:Nat) (r:Row) (ver:Nat):PV:=if r.ver = ver then (match r.kind with | .nil=>.sl false 1 [] | .sli _ sz _ c=>.sl false sz c | .tab _ c=>.sl false 1 (c.map (zlL rw)) | _=>.junk) else .junk
theorem zuQ (rw:Nat→Row) (n j ver:Nat):zck rw (n + 1) (.own j ver) = zga rw n (rw j) ver:=(rfl)
theorem zkj (rw:Nat→Row) (n:Nat) (ver e:Nat) (c:List PV):zga rw n ⟨ver,.tab e c⟩ ver = .sl false 1 (c.map (zlL rw)):=by simp [zga]
theorem zkk (rw:Nat→Row) (n:Nat) (ver e sz:Nat) (fz:Bool) (c:List PV):zga rw n ⟨ver,.sli e sz fz c⟩ ver = .sl false sz c:=by simp [zga]
theorem zkl (rw:Nat→Row) (n:Nat) (ver:Nat):zga rw n ⟨ver,.nil⟩ ver = .sl false 1 []:=by simp [zga]
end
def zzc:PV→Prop | .sl _ sz c=>c.length ≤ 9223372036854775807 * sz | _=>True
def zkm:PV→Prop | .sl _ sz c=>c.length ≤ 9223372036854775807 * sz∧∀ p ∈ c,zzc p | .ag c=>∀ p ∈ c,zzc p | .eref _ c _=>∀ p ∈ c,zzc p | _=>True
def zkn:PV→Prop | .sl _ sz c=>c.length ≤ 9223372036854775807 * sz∧∀ p ∈ c,zkm p | .ag c=>∀ p ∈ c,zkm p | .eref _ c _=>∀ p ∈ c,zkm p | .clo _ c=>∀ p ∈ c,zkm p | _=>True
def zBA:List PV→Prop | []=>True | p :: ps=>zkn p∧zBA ps
theorem znT {w:World} {E:Env} {lo:Nat} {p:PV} {x:Value} (h:Rep w E lo p x):zzc p:=by
 cases h <;> try trivial
 next sz len cap cells a cs hl hc hm hr hh =>
  show cells.length ≤ 9223372036854775807 * sz
  rw [hl]
  exact Nat.mul_le_mul_right _ (Nat.le_trans hc hm)
theorem zje [zad] {w:World} {E:Env} {lo:Nat} {p:PV} {x:Value} (h:Rep w E lo p x):zkm p:=by
 cases h <;> try trivial
 case sl fr sz len cap cells a cs hl hc hm hr hh =>
  refine ⟨?_,fun p hp=>?_⟩
  ·rw [hl];exact Nat.mul_le_mul_right _ (Nat.le_trans hc hm)
  ·obtain ⟨i,hi,rfl⟩:=List.getElem_of_mem hp;exact znT (hh i hi)
 case eref fr cells off b o cs hr hh=>intro p hp;obtain ⟨i,hi,rfl⟩:=List.getElem_of_mem hp;exact znT (hh i hi)
 case ag cells vs hl hh=>intro p hp;obtain ⟨i,hi,rfl⟩:=List.getElem_of_mem hp;exact znT (hh i hi (by omega))
theorem zBB [zad] {w:World} {E:Env} {lo:Nat} {p:PV} {x:Value} (h:Rep w E lo p x):zkn p:=by
 cases h <;> try trivial
 case sl fr sz len cap cells a cs hl hc hm hr hh =>
  refine ⟨?_,fun p hp=>?_⟩
  ·rw [hl];exact Nat.mul_le_mul_right _ (Nat.le_trans hc hm)
  ·obtain ⟨i,hi,rfl⟩:=List.getElem_of_mem hp;exact zje (hh i hi)
 case eref fr cells off b o cs hr hh=>intro p hp;obtain ⟨i,hi,rfl⟩:=List.getElem_of_mem hp;exact zje (hh i hi)
 case ag cells vs hl hh=>intro p hp;obtain ⟨i,hi,rfl⟩:=List.getElem_of_mem hp;exact zje (hh i hi (by omega))
 case clo f cells vs hl hh=>intro p hp;obtain ⟨i,hi,rfl⟩:=List.getElem_of_mem hp;exact zje (hh i hi (by omega))
theorem zzd [zad] {w:World} {E:Env} {lo:Nat} {ps:List PV} {vs:List Value} (h:zbj w E lo ps vs):zBA ps:=by
 have:∀ p ∈ ps,zkn p:=by
  intro p hp
  obtain ⟨i,hi,rfl⟩:=List.getElem_of_mem hp
  exact zBB (h.2 i hi (by rw [← h.1];exact hi))
 clear h
 induction ps with
 | nil=>trivial
 | cons p ps ih=>exact ⟨this p (by simp),ih fun q hq=>this q (by simp [hq])⟩
theorem zbg:zBA [] = True:=(rfl)
theorem zaT (p:PV) (ps:List PV):zBA (p :: ps) = (zkn p∧zBA ps):=(rfl)
theorem zhI (x:Value):zkn (.v x) = True:=(rfl)
theorem zcZ (x:Value):zkm (.v x) = True:=(rfl)
theorem zb2 (fr:Bool) (xs:List Int):zkm (.sl fr 1 (iL xs)) = (xs.length ≤ 9223372036854775807):=by simp [zkm,zzc,iL]
theorem zg2 (fr:Bool) (xs:List Int):zkn (.sl fr 1 (iL xs)) = (xs.length ≤ 9223372036854775807):=by simp [zkn,zkm,iL]
theorem zze [zad] (fr:Bool) (xs:List (List Int)):zkn (.sl fr 1 (iLL xs)) = (xs.length ≤ 9223372036854775807∧∀ r ∈ xs,r.length ≤ 9223372036854775807):=by simp [zkn,iLL,zb2]
theorem zbK (x y:PV):zkn (.ag [x,y]) = (zkm x∧zkm y):=by simp [zkn]
theorem AC.go [zad] {f:FuncId} {fn:Func} {c:Code} {rs:List ResultVar} {args:List PV} {rv:RV} (hT:T.Ok P) (hm:P.follows .mixedOrders = true) (hf:P.funcs[f]? = some fn) (hname:(fn.name == "runtime.NumGoroutine") = false)
 (hb:fn.body = some c) (hr:fn.results.toList = rs) (hfit:(fits fn.ntmps c && decide (args.length ≤ fn.ntmps) && decide (fn.results.toList.length ≤ 4)) = true) (h:zBA args→cwp P T c (zHg T rs rv) (St.init args)):AC P f args rv:=by
 subst hr
 refine ⟨⟨fn,hf,hname,by rw [hb];rfl⟩,fun w vals hphi hv=>?_⟩
 exact (AC.of hT hm hf hname hb hfit (h (zzd hv))).2 w vals hphi hv
theorem AM.go [zad] {f:FuncId} {fn:Func} {c:Code} {rs:List ResultVar} {args:List PV} {ins:List LR} {outs:List (List PV)} {x:Value} (hT:T.Ok P) (hm:P.follows .mixedOrders = true) (hf:P.funcs[f]? = some fn) (hname:(fn.name == "runtime.NumGoroutine") = false)
 (hb:fn.body = some c) (hr:fn.results.toList = rs) (hfit:(fits fn.ntmps c && decide (args.length ≤ fn.ntmps) && decide (fn.results.toList.length ≤ 4)) = true) (hi:∀ r ∈ ins,zca r.c) (ho:∀ c ∈ outs,zca c) (hlen:outs.length = ins.length)
 (h:(∀ r ∈ ins,r.c.length ≤ 9223372036854775807 * r.sz)→cwp P T c (zHf T rs ins outs x) (St.initM args ins)):AM P f args ins outs x:=by
 subst hr
 exact AM.of hT hm hf hname hb hfit hi ho hlen h
theorem zc8 [zad] (xs:List Int):zca (iL xs):=by have:=zxz xs;unfold zca;rw [this];trivial
theorem zBC [zad] (xs:List ByteArray):zca (sL xs):=by have:=zCP xs;unfold zca;rw [this];trivial
theorem zjf (args:List PV) (ins:List LR) (i:Nat):(St.initM args ins).sl i = args.getD i .junk:=(rfl)
theorem zjg (args:List PV) (ins:List LR) (i:Nat):(St.initM args ins).rw i = inR ins i:=(rfl)
theorem zuR (ins:List LR) (k:Nat) (h:k < 1000000):inR ins k = ⟨0,.dead⟩:=by
 unfold inR;rw [if_neg (by show ¬ (1000000 ≤ k);omega)]
theorem zBD [zad] (e sz:Nat) (c:List PV) (l:List LR):inR (⟨e,sz,c⟩ :: l) 1000000 = ⟨1,.sli e sz false c⟩:=zq7 (ins:=⟨e,sz,c⟩ :: l) (i:=0) rfl
theorem zBE [zad] (r:LR) (e sz:Nat) (c:List PV) (l:List LR):inR (r :: ⟨e,sz,c⟩ :: l) 1000001 = ⟨1,.sli e sz false c⟩:=zq7 (ins:=r :: ⟨e,sz,c⟩ :: l) (i:=1) rfl
theorem zuS (rs:List ResultVar) (ins:List LR) (outs:List (List PV)) (x:Value):zHf T rs ins outs x .ret s = zEk T s rs ins outs x:=(rfl)
theorem zqH (rs:List ResultVar) (ins:List LR) (outs:List (List PV)) (x:Value):zHf T rs ins outs x .norm s = zEk T s rs ins outs x:=(rfl)
theorem zuT (r:Nat) (ins:List LR) (outs:List (List PV)) (x:Value):zEk T s [.tmp r] ins outs x = (zr4 s.rw 0 ins outs∧s.sl r = .v x):=(rfl)
theorem zqI (ins:List LR) (outs:List (List PV)) (x:Value):zEk T s [] ins outs x = (zr4 s.rw 0 ins outs∧x = .tuple #[]):=(rfl)
theorem zzf (rw:Nat→Row) (e sz:Nat) (a c:List PV):zr4 rw 0 [⟨e,sz,a⟩] [c] = (rw 1000000 = ⟨1,.sli e sz false c⟩):=by
 show (rw 1000000 = ⟨1,.sli e sz false c⟩∧True) = _
 rw [and_true]
theorem zzg (rw:Nat→Row) (e sz e' sz':Nat) (a c a' c':List PV):zr4 rw 0 [⟨e,sz,a⟩,⟨e',sz',a'⟩] [c,c'] = (rw 1000000 = ⟨1,.sli e sz false c⟩∧rw 1000001 = ⟨1,.sli e' sz' false c'⟩):=by
 show (rw 1000000 = ⟨1,.sli e sz false c⟩∧rw 1000001 = ⟨1,.sli e' sz' false c'⟩∧True) = _
 rw [and_true]
theorem znU (j v e sz:Nat) (a c:List PV):s.wrote [(j,v)] [⟨e,sz,a⟩] [c] = s.row j ⟨v,.sli e sz false c⟩:=by
 unfold St.wrote St.row zdO
 congr 1
 funext k
 by_cases h:k = j
 ·subst h;simp
 ·have:(j == k) = false:=by simp;exact fun e=>h e.symm
  simp [h,this]
theorem znV [zad] (j v e sz j' v' e' sz':Nat) (a c a' c':List PV) (hj:j ≠ j'):s.wrote [(j,v),(j',v')] [⟨e,sz,a⟩,⟨e',sz',a'⟩] [c,c'] = (s.row j ⟨v,.sli e sz false c⟩).row j' ⟨v',.sli e' sz' false c'⟩:=by
 have hn:([(j,v),(j',v')].map (·.1)).Nodup:=by simpa using hj
 unfold St.wrote St.row
 congr 1
 funext k
 show zdO s.rw [(j,v),(j',v')] [⟨e,sz,a⟩,⟨e',sz',a'⟩] [c,c'] k = if k = j' then ⟨v',.sli e' sz' false c'⟩ else if k = j then ⟨v,.sli e sz false c⟩ else s.rw k
 by_cases h:k = j'
 ·subst h
  rw [if_pos rfl]
  exact zkD hn (i:=1) (j:=(k,v')) (r:=⟨e',sz',a'⟩) (c:=c') rfl rfl rfl
 ·rw [if_neg h]
  by_cases h':k = j
  ·subst h'
   rw [if_pos rfl]
   exact zkD hn (i:=0) (j:=(k,v)) (r:=⟨e,sz,a⟩) (c:=c) rfl rfl rfl
  ·rw [if_neg h']
   exact znb (by simp [h,h'])
theorem AG.go [zad] {f:FuncId} {fn:Func} {c:Code} {rs:List ResultVar} {args:List PV} {R0:Nat→Row} {post:(Nat→Row)→PV→Prop} (hT:T.Ok P) (hm:P.follows .mixedOrders = true) (hf:P.funcs[f]? = some fn) (hname:(fn.name == "runtime.NumGoroutine") = false)
 (hb:fn.body = some c) (hr:fn.results.toList = rs) (hfit:(fits fn.ntmps c && decide (args.length ≤ fn.ntmps) && decide (fn.results.toList.length ≤ 4)) = true)
 (h:zBA args→(∀ k,zm3 (R0 k).kind)→∀ s:St,(∀ i,s.sl i = args.getD i .junk)→(∀ k,s.rw k = R0 k)→cwp P T c (zDB T rs post) s):AG P f args R0 post:=by
 subst hr
 refine ⟨⟨fn,hf,hname,by rw [hb];rfl⟩,fun w M E vals hw hR hv=>?_⟩
 exact (AG.of hT hm hf hname hb hfit (fun hl=>h (zzd hv) hl _ (fun _=>rfl) (fun _=>rfl))).2 w M E vals hw hR hv
theorem zuU (rs:List ResultVar) (post:(Nat→Row)→PV→Prop):zDB T rs post .ret s = zxb T s rs post:=(rfl)
theorem zqJ (rs:List ResultVar) (post:(Nat→Row)→PV→Prop):zDB T rs post .norm s = zxb T s rs post:=(rfl)
theorem zuV (r:Nat) (post:(Nat→Row)→PV→Prop):zxb T s [.tmp r] post = post s.rw (s.sl r):=(rfl)
theorem zqK (post:(Nat→Row)→PV→Prop):zxb T s [] post = post s.rw (.tup []):=(rfl)
theorem zqL (a:Nat) (t:TypeId) (post:(Nat→Row)→PV→Prop):zxb T s [.cell a t] post = zrT s.rw (s.sl a) (kk fun m c off=>ldK T t m c off (kk fun p=>post s.rw p)):=(rfl)
theorem zuW (r r2:Nat) (post:(Nat→Row)→PV→Prop):zxb T s [.tmp r,.tmp r2] post = post s.rw (.tup [s.sl r,s.sl r2]):=(rfl)
theorem zam {n:Int} (h:-9223372036854775808 ≤ n) (h2:n ≤ 9223372036854775807):IntKind.i64.wrap n = n:=by
 simp [IntKind.wrap,IntKind.bits,IntKind.signed]
 omega
section
variable {Kp:PV→Prop}
theorem zbs [zad] (k:Nat) (p:List Nat) {t:TypeId} (o:Nat) (h0:(T t).k.agg = false) (h1:0 < (T t).size):ldK T t .asis (zav k p) o Kp = (o < p.length∧Kp (.own (sid k (p.getD o 0)) 1)):=by
 have:=zeQ (T:=T) (Kp:=Kp) (fun j=>PV.own (sid k j) 1) 0 p (t:=t) (m:=.asis) o (fun j=>.own (sid k j) 1) (fun _=>rfl) h0 h1
 exact this
theorem zHd (k:Nat) (p:List Nat) (i j:Nat):spl (zav k p) i [.own (sid k j) 1] = zav k (p.set i j):=by
 show (zav k p).set i (.own (sid k j) 1) = _
 unfold zav;rw [List.map_set]
theorem zBF (k:Nat) (p:List Nat) (j:Nat):zav k p ++ [.own (sid k j) 1] = zav k (p ++ [j]):=by simp [zav]
theorem zg3 (k v e e2:Nat) (p:List Nat) (rows:List (List PV)):(s.tabbed k v e e2 p rows).sl = s.sl:=(rfl)
theorem zfs [zad] (k v e e2:Nat) (p:List Nat) (rows:List (List PV)):(s.tabbed k v e e2 p rows).rw k = ⟨v,.tab e (zav k p)⟩:=zha
theorem zg4 [zad] (k v e e2:Nat) (p:List Nat) (rows:List (List PV)) (j:Nat) (h:(j % 1000 == k % 1000) = false):(s.tabbed k v e e2 p rows).rw j = s.rw j:=by
 have h:=beq_eq_false_iff_ne.1 h
 refine zhM (fun e=>h (by rw [e])) fun x _ e=>h ?_
 rw [e,zbq];omega
theorem zqM (k v:Nat) (dst:Option Nat):TR.self.next s k v dst K = K (s.put dst (.own k v)):=(rfl)
theorem zm1 (k v:Nat) (dst:Option Nat) (x:Value):(TR.selfx x).next s k v dst K = K (s.put dst (.tup [.own k v,.v x])):=(rfl)
theorem zzh (k v d:Nat) (r:RV):(TR.rv r).next s k v (some d) K = (d % 1000 ≠ k % 1000∧K (zai s d r)):=(rfl)
theorem zqN (k v:Nat) (r:RV):(TR.rv r).next s k v none K = K s:=(rfl)
theorem zjh (args:List PV) (e e2:Nat) (rows:List (List PV)) (i:Nat):(St.initT args e e2 rows).sl i = args.getD i .junk:=(rfl)
theorem zji (args:List PV) (e e2:Nat) (rows:List (List PV)) (i:Nat):(St.initT args e e2 rows).rw i = inT e e2 rows i:=(rfl)
theorem znW [zad] (e e2:Nat) (rows:List (List PV)) (k:Nat) (h:k < 1000000):inT e e2 rows k = ⟨0,.dead⟩:=zzC h
theorem zeg [zad] (e e2:Nat) (rows:List (List PV)):inT e e2 rows 1000000 = ⟨1,.tab e (zav 1000000 (List.range rows.length))⟩:=zc0
theorem zuX (rs:List ResultVar) (e e2 n:Nat) (rows:List (List PV)) (res:TR):zHe T rs e e2 n rows res .ret s = zDC T s rs e e2 n rows res:=(rfl)
theorem zqO (rs:List ResultVar) (e e2 n:Nat) (rows:List (List PV)) (res:TR):zHe T rs e e2 n rows res .norm s = zDC T s rs e e2 n rows res:=(rfl)
def zuY (rw:Nat→Row) (e e2 n:Nat) (rows:List (List PV)):Prop:=∃ q:List Nat,TabIs rw lent 1 e e2 q rows∧q.Perm (List.range n)
theorem zqP (r e e2 n:Nat) (rows:List (List PV)):zDC T s [.tmp r] e e2 n rows .self = (zuY s.rw e e2 n rows∧s.sl r = .own 1000000 1):=(rfl)
theorem zm2 (r r2 e e2 n:Nat) (rows:List (List PV)) (x:Value):zDC T s [.tmp r,.tmp r2] e e2 n rows (.selfx x) = (zuY s.rw e e2 n rows∧s.sl r = .own 1000000 1∧s.sl r2 = .v x):=(rfl)
theorem zzi (rs:List ResultVar) (e e2 n:Nat) (rows:List (List PV)) (r:RV):zDC T s rs e e2 n rows (.rv r) = (zuY s.rw e e2 n rows∧zv6 T s rs r):=(rfl)
theorem zeT [zad] (d e e2:Nat) (rows:List (List PV)):(zai s d (.tb e e2 rows)).sl d = .own d ((s.rw d).ver + 1):=by
 unfold zai
 rw [zaI]
 rfl
theorem zdo [zad] (d e e2 t:Nat) (rows:List (List PV)) (h:t ≠ d):(zai s d (.tb e e2 rows)).sl t = s.sl t:=by
 unfold zai
 rw [zbb _ _ _ _ h]
theorem zeU [zad] (d e e2 j:Nat) (rows:List (List PV)) (h:(j % 1000 == d % 1000) = false):(zai s d (.tb e e2 rows)).rw j = s.rw j:=by
 have h:=beq_eq_false_iff_ne.1 h
 unfold zai
 rw [zeC]
 show zas s.rw d (leaves (.tb e e2 rows)) 0 j = s.rw j
 rw [zcz]
 refine zch _ _ _ _ _ fun i _ e=>h ?_
 rw [e];unfold zah;omega
theorem zqQ [zad] (d e e2:Nat) (rows:List (List PV)) {i:Nat} (h:i < rows.length):(zai s d (.tb e e2 rows)).rw (sid d i) = ⟨(s.rw (sid d i)).ver + 1,.sli e2 1 false (rows.getD i [])⟩:=by
 have hrw:(zai s d (.tb e e2 rows)).rw = zhN s.rw d (zbi s.rw d (leaves (.tb e e2 rows)) 0) 0:=by
  unfold zai;rw [zeC];exact zcz _ _ _ _
 have hl:(leaves (.tb e e2 rows)).length = rows.length + 1:=by rw [leaves];simp
 have h1:i + 1 < (zbi s.rw d (leaves (.tb e e2 rows)) 0).length:=by rw [zaX,hl];omega
 have h2:i + 1 < (leaves (.tb e e2 rows)).length:=by rw [hl];omega
 have:=zds s.rw d (zbi s.rw d (leaves (.tb e e2 rows)) 0) 0 (i + 1) h1
 rw [Nat.zero_add] at this
 rw [hrw]
 show zhN s.rw d _ 0 (zah d (i + 1)) = _
 rw [this,zdj _ _ _ _ _ h2,Nat.zero_add]
 have h3:(leaves (.tb e e2 rows))[i + 1] = (e2,some 1,rows[i]):=by simp [leaves]
 rw [h3]
 simp [zbE,sid,List.getD,h]
theorem zd2 [zad] (d e e2:Nat) (rows:List (List PV)):(zai s d (.tb e e2 rows)).rw d = ⟨(s.rw d).ver + 1,.tab e (zaN s.rw d 0 rows.length)⟩:=by
 have hrw:(zai s d (.tb e e2 rows)).rw = zhN s.rw d (zbi s.rw d (leaves (.tb e e2 rows)) 0) 0:=by
  unfold zai;rw [zeC];exact zcz _ _ _ _
 have hl:(leaves (.tb e e2 rows)).length = rows.length + 1:=by rw [leaves];simp
 have h1:0 < (zbi s.rw d (leaves (.tb e e2 rows)) 0).length:=by rw [zaX,hl];omega
 have h2:0 < (leaves (.tb e e2 rows)).length:=by rw [hl];omega
 have:=zds s.rw d (zbi s.rw d (leaves (.tb e e2 rows)) 0) 0 0 h1
 rw [Nat.zero_add] at this
 rw [hrw]
 have hd:zah d 0 = d:=by unfold zah;omega
 have e1:zhN s.rw d (zbi s.rw d (leaves (.tb e e2 rows)) 0) 0 d = zhN s.rw d (zbi s.rw d (leaves (.tb e e2 rows)) 0) 0 (zah d 0):=by rw [hd]
 rw [e1,this,zdj _ _ _ _ _ h2]
 have h3:(leaves (.tb e e2 rows))[0] = (e,none,List.replicate rows.length .junk):=by simp [leaves]
 rw [h3]
 simp [zbE,hd]
theorem zko [zad] (d j:Nat):zah d (0 + 1 + j) = sid d j:=by rw [zbq];unfold zah;omega
theorem zkp [zad] (d e e2:Nat) (rows:List (List PV)) (h:∀ i,i < rows.length→(s.rw (sid d i)).ver = 0):TabIs (zai s d (.tb e e2 rows)).rw d ((s.rw d).ver + 1) e e2 (List.range rows.length) rows:=by
 refine ⟨?_,by simp,fun i hi=>?_⟩
 ·rw [zd2]
  congr 2
  unfold zaN zav
  refine List.map_congr_left fun j hj=>?_
  rw [zko,h j (List.mem_range.1 hj)]
 ·have hi':i < rows.length:=by simpa using hi
  have:(List.range rows.length).getD i 0 = i:=by simp [List.getD,hi']
  rw [this,zqQ d e e2 rows hi',h i hi']
theorem zr3 [zad] (d e e2:Nat) (rows:List (List PV)):(zaN s.rw d 0 rows.length).map (zlL (zai s d (.tb e e2 rows)).rw) = rows.map fun r=>.sl false 1 r:=by
 refine List.ext_getElem (by simp [zaN]) fun i a b=>?_
 have hi:i < rows.length:=by simpa using b
 have h2:rows.getD i [] = rows[i]:=by simp [List.getD,hi]
 rw [List.getElem_map,List.getElem_map]
 simp only [zaN,List.getElem_map,List.getElem_range]
 rw [zko]
 simp only [zlL,zqQ d e e2 rows hi,if_true,h2]
end
theorem zg5 (k:Nat) (p:List Nat):(s.killed k p).sl = s.sl:=(rfl)
theorem zg6 [zad] (k:Nat) (p:List Nat) (j:Nat) (h:(j % 1000 == k % 1000) = false):(s.killed k p).rw j = s.rw j:=by
 have h:=beq_eq_false_iff_ne.1 h
 refine zb9 fun hj=>h ?_
 rcases hj with rfl | ⟨x,_,rfl⟩
 ·rfl
 ·exact zcn _ _
theorem zkq [zad] {rw0:Nat→Row} (d e e2:Nat) (rows:List (List PV)) (h:∀ i,s.rw (sid d i) = rw0 (sid d i)):(zaN rw0 d 0 rows.length).map (zlL (zai s d (.tb e e2 rows)).rw) = rows.map fun r=>.sl false 1 r:=by
 have:zaN rw0 d 0 rows.length = zaN s.rw d 0 rows.length:=by
  unfold zaN
  refine List.map_congr_left fun j _=>?_
  rw [zko,h j]
 rw [this,zr3]
theorem zDA (M:List (List Int)):(M.map iL).map (fun r=>PV.sl false 1 r) = iLL M:=by
 unfold iLL
 rw [List.map_map];rfl
def ziO [zad] {α:Type} (I:α→St→Prop) (μ:α→Nat) (m:Nat) (s2:St):Prop:=∃ x' s3,Wk s2 s3∧I x' s3∧μ x' < m
theorem zac [zad] {α:Type} {I:α→St→Prop} {μ:α→Nat} {m:Nat} (x':α) (h:I x' s) (hm:μ x' < m):ziO I μ m s:=⟨x',s,Wk.refl s,h,hm⟩
theorem zan [zad] {α:Type} (I:α→St→Prop) (μ:α→Nat) (x0:α) {b:(AX→St→Prop)→St→Prop} {u:Dm b} {v:Dm Q} (h0:I x0 s) (h:∀ x s1,I x s1→b (AX.seq (ziO I μ (μ x)) Q) s1):zqU (kk b u) (kk Q v) s :=
 ⟨α,I,μ,⟨x0,s,Wk.refl s,h0⟩,h⟩
end
end Go.Abs
