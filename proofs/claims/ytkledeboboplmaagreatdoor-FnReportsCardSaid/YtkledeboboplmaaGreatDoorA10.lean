/- DERIVED by an AI agent. Rules by which simp carries a text out, head first. No program in sight. -/
import Derived.Test.YtkledeboboplmaaGreatDoorA9
namespace Go.Abs
set_option linter.unusedSimpArgs false
set_option linter.unusedVariables false
def iL (xs:List Int):List PV:=xs.map fun n=>.v (.int .i64 n)
def kL (k:IntKind) (xs:List Int):List PV:=xs.map fun n=>.v (.int k n)
def sL (xs:List ByteArray):List PV:=xs.map fun n=>.v (.string n)
def bL (xs:List Bool):List PV:=xs.map fun n=>.v (.bool n)
def iLL (xss:List (List Int)):List PV:=xss.map fun r=>.sl false 1 (iL r)
abbrev zaz (xs:List Int):PV:=.sl false 1 (iL xs)
abbrev zPQ (xs:List ByteArray):PV:=.sl false 1 (sL xs)
abbrev zEB (xss:List (List Int)):PV:=.sl false 1 (iLL xss)
abbrev int (n:Int):PV:=.v (.int .i64 n)
abbrev u64 (n:Int):PV:=.v (.int .u64 n)
abbrev bool (b:Bool):PV:=.v (.bool b)
abbrev str (s:ByteArray):PV:=.v (.string s)
theorem zll (xs:List Int):(iL xs).length = xs.length:=by simp [iL]
theorem zri (k:IntKind) (xs:List Int):(kL k xs).length = xs.length:=by simp [kL]
theorem zcu (xs:List ByteArray):(sL xs).length = xs.length:=by simp [sL]
theorem zrj (xs:List Bool):(bL xs).length = xs.length:=by simp [bL]
theorem zi5 (xs:List (List Int)):(iLL xs).length = xs.length:=by simp [iLL]
theorem zrk (xs ys:List Int):iL xs ++ iL ys = iL (xs ++ ys):=by simp [iL]
theorem zAu (xs:List Int) (n:Int):iL xs ++ [.v (.int .i64 n)] = iL (xs ++ [n]):=by simp [iL]
theorem zrl (k:IntKind) (xs ys:List Int):kL k xs ++ kL k ys = kL k (xs ++ ys):=by simp [kL]
theorem zAv (k:IntKind) (xs:List Int) (n:Int):kL k xs ++ [.v (.int k n)] = kL k (xs ++ [n]):=by simp [kL]
theorem zpW (xs:List ByteArray) (n:ByteArray):sL xs ++ [.v (.string n)] = sL (xs ++ [n]):=by simp [sL]
theorem zrm (xs ys:List ByteArray):sL xs ++ sL ys = sL (xs ++ ys):=by simp [sL]
theorem zpX (xs:List (List Int)) (r:List Int):iLL xs ++ [.sl false 1 (iL r)] = iLL (xs ++ [r]):=by simp [iLL]
theorem zn3 (xs ys:List (List Int)):iLL xs ++ iLL ys = iLL (xs ++ ys):=by simp [iLL]
theorem zAw (xs:List Int) (n:Nat):(iL xs).take n = iL (xs.take n):=by simp [iL]
theorem zAx (xs:List Int) (n:Nat):(iL xs).drop n = iL (xs.drop n):=by simp [iL]
theorem zAy (xs:List ByteArray) (n:Nat):(sL xs).take n = sL (xs.take n):=by simp [sL]
theorem zAz (xs:List ByteArray) (n:Nat):(sL xs).drop n = sL (xs.drop n):=by simp [sL]
theorem zvP (xs:List (List Int)) (n:Nat):(iLL xs).take n = iLL (xs.take n):=by simp [iLL]
theorem zvQ (xs:List (List Int)) (n:Nat):(iLL xs).drop n = iLL (xs.drop n):=by simp [iLL]
theorem zGG (xs:List Int) (i:Nat) (n:Int):spl (iL xs) i [.v (.int .i64 n)] = iL (xs.set i n):=by simp [spl,iL]
theorem zGH (a p:PV) (c:List PV):spl (a :: c) 0 [p] = p :: c:=by simp [spl]
theorem zGI (a b p:PV) (c:List PV):spl (a :: b :: c) 1 [p] = a :: p :: c:=by simp [spl]
theorem zGJ (a b d p:PV) (c:List PV):spl (a :: b :: d :: c) 2 [p] = a :: b :: p :: c:=by simp [spl]
theorem zGK (a b d e p:PV) (c:List PV):spl (a :: b :: d :: e :: c) 3 [p] = a :: b :: d :: p :: c:=by simp [spl]
theorem zGL (a b p q:PV):spl [a,b] 0 [p,q] = [p,q]:=by simp [spl]
theorem zGM (a b c d p q:PV):spl [a,b,c,d] 0 [p,q] = [p,q,c,d]:=by simp [spl]
theorem zAA (a b c d p q:PV):spl [a,b,c,d] 2 [p,q] = [a,b,p,q]:=by simp [spl]
theorem zGN (a b c d p q r s:PV):spl [a,b,c,d] 0 [p,q,r,s] = [p,q,r,s]:=by simp [spl]
theorem zGO (xs:List Bool) (i:Nat) (n:Bool):spl (bL xs) i [.v (.bool n)] = bL (xs.set i n):=by simp [spl,bL]
theorem zAB (xs:List (List Int)) (i:Nat) (r:List Int):spl (iLL xs) i [.sl false 1 (iL r)] = iLL (xs.set i r):=by simp [spl,iLL]
theorem zdq (n:Nat) (x:Int):List.replicate n (PV.v (.int .i64 x)) = iL (List.replicate n x):=by simp [iL]
theorem zfY (n:Nat) (x:Bool):List.replicate n (PV.v (.bool x)) = bL (List.replicate n x):=by simp [bL]
theorem zAC (xs:List Int):(∀ p ∈ iL xs,isV p = true) = True:=by simp [iL,isV,Value.oneCell']
theorem zLN (k:IntKind) (xs:List Int):(∀ p ∈ kL k xs,isV p = true) = True:=by simp [kL,isV,Value.oneCell']
theorem zGP (xs:List ByteArray):(∀ p ∈ sL xs,isV p = true) = True:=by simp [sL,isV,Value.oneCell']
theorem zE3 (xs:List (List Int)):(∀ p ∈ iLL xs,zud p = true) = True:=by simp [iLL,zud]
theorem zAD (k:IntKind) (n:Int):(Value.int k n).oneCell' = true:=(rfl)
theorem zvR (b:Bool):(Value.bool b).oneCell' = true:=(rfl)
theorem zn4 (b:ByteArray):(Value.string b).oneCell' = true:=(rfl)
theorem zrn (a:Option Addr) (l c:Nat):(Value.slice a l c).oneCell' = true:=(rfl)
theorem zkA (s:St) (p:PV):s.put none p = s:=(rfl)
theorem zec (s:St) (d:Option Nat) (p:PV):(s.put d p).rw = s.rw:=by cases d <;> rfl
theorem zvS (s:St) (k:Nat) (r:Row):(s.row k r).sl = s.sl:=(rfl)
theorem zaA (s:St) (k:Nat) (r:Row):(s.row k r).rw k = r:=by simp [St.row]
theorem zap (s:St) (k j:Nat) (r:Row) (h:j ≠ k):(s.row k r).rw j = s.rw j:=by simp [St.row,h]
theorem zhY (s:St) (ks:List Nat):(s.freeze ks).sl = s.sl:=(rfl)
theorem zhZ (s:St) (ks:List Nat) (k:Nat):(s.freeze ks).rw k = if k ∈ ks then frz (s.rw k) else s.rw k:=(rfl)
theorem zpY (ver:Nat) (e sz:Nat) (fz:Bool) (c:List PV):frz ⟨ver,.sli e sz fz c⟩ = ⟨ver,.sli e sz true c⟩:=(rfl)
theorem zvT (s:St) (t:Nat):s.ev (.tmp t) = s.sl t:=(rfl)
theorem zAE (s:St) (f:FuncId):s.ev (.func f) = .clo f []:=(rfl)
theorem zvU (s:St) (k:IntKind) (n:Int):s.ev (.const (.int k n)) = .v (.int k n):=(rfl)
theorem zpZ (s:St) (b:Bool):s.ev (.const (.bool b)) = .v (.bool b):=(rfl)
theorem zh0 (s:St) (b:ByteArray):s.ev (.const (.string b)) = .v (.string b):=(rfl)
theorem zvV (s:St) (a:Option Addr) (l c:Nat):s.ev (.const (.slice a l c)) = .v (.slice a l c):=(rfl)
theorem zGQ (s:St) (cs:List Value):s.ev (.const (.agg ⟨cs⟩)) = .ag (cs.map PV.v):=(rfl)
theorem zp0 (args:List PV) (i:Nat):(St.init args).sl i = args.getD i .junk:=(rfl)
theorem zp1 (args:List PV) (i:Nat):(St.init args).rw i = ⟨0,.dead⟩:=(rfl)
theorem zh1 {α:Type} (a:α) (l:List α) (d:α):(a :: l).getD 0 d = a:=(rfl)
theorem zh2 {α:Type} (a:α) (l:List α) (i:Nat) (d:α):(a :: l).getD (i + 1) d = l.getD i d:=(rfl)
theorem zkB {α:Type} (i:Nat) (d:α):([]:List α).getD i d = d:=(rfl)
theorem zkC (s:St) (d:Nat) (kd:RK) (p:Nat->PV):zcX s d kd p = (s.row d ⟨(s.rw d).ver + 1,kd⟩).put (some d) (p ((s.rw d).ver + 1)):=(rfl)
theorem zkD (s:St) (d k:Nat) (kd:RK):zdG s d k kd = (s.row k ⟨(s.rw k).ver + 1,kd⟩).put (some d) (.own k ((s.rw k).ver + 1)):=(rfl)
structure Dm {α:Type} (K:α):Type
def kk {α:Type} (K:α) (_:Dm K:=⟨⟩):α:=K
theorem zE4 {α β:Type} (K:α->β) (u:Dm K) (x:α):kk K u x = K x:=(rfl)
def evK (p:PV) (K:PV->Prop):Prop:=K p
theorem zLO (v:Value) (K:PV->Prop):evK (.v v) K = K (.v v):=(rfl)
theorem zGR (fr:Bool) (z:Nat) (c:List PV) (K:PV->Prop):evK (.sl fr z c) K = K (.sl fr z c):=(rfl)
theorem zAF (j v:Nat) (K:PV->Prop):evK (.own j v) K = K (.own j v):=(rfl)
theorem zAG (j v o:Nat) (K:PV->Prop):evK (.ref j v o) K = K (.ref j v o):=(rfl)
theorem zvW (fr:Bool) (c:List PV) (o:Nat) (K:PV->Prop):evK (.eref fr c o) K = K (.eref fr c o):=(rfl)
theorem zGS (c:List PV) (K:PV->Prop):evK (.ag c) K = K (.ag c):=(rfl)
theorem zAH (c:List PV) (K:PV->Prop):evK (.tup c) K = K (.tup c):=(rfl)
theorem zAI (f:FuncId) (c:List PV) (K:PV->Prop):evK (.clo f c) K = K (.clo f c):=(rfl)
theorem zvX (K:PV->Prop):evK .junk K = K .junk:=(rfl)
section
variable {P:Program} {T:Tab} {ops:Array Oper} {Q:AX->St->Prop} {s:St}
def zE5 (p:PV) (A B:Prop):Prop:=match p with | .v (.bool b)=>(b = true->A)/\(b = false->B) | _=>False
def c1 (b:Bool) (A B:Prop):Prop:=(b = true->A)/\(b = false->B)
def c2 (b:Bool) (A B:Prop):Prop:=(b = true->A)/\(b = false->B)
def d1 (b:Bool) (A B:Prop):Prop:=(b = false->A)/\(b = true->B)
def d2 (b:Bool) (A B:Prop):Prop:=(b = false->A)/\(b = true->B)
theorem zLP (A B:Prop):c1 true (kk A) (kk B) = A:=by simp [c1,kk]
theorem zLQ (A B:Prop):c1 false (kk A) (kk B) = B:=by simp [c1,kk]
theorem zLR (A B:Prop):c2 true (kk A) (kk B) = A:=by simp [c2,kk]
theorem zLS (A B:Prop):c2 false (kk A) (kk B) = B:=by simp [c2,kk]
theorem zLT (A B:Prop):d1 true (kk A) (kk B) = B:=by simp [d1,kk]
theorem zLU (A B:Prop):d1 false (kk A) (kk B) = A:=by simp [d1,kk]
theorem zLV (A B:Prop):d2 true (kk A) (kk B) = B:=by simp [d2,kk]
theorem zLW (A B:Prop):d2 false (kk A) (kk B) = A:=by simp [d2,kk]
theorem zGT (b:Bool) (A B:Prop):c1 b A B = c2 b A B:=(rfl)
theorem zGU (b:Bool) (A B:Prop):c2 b (kk A) (kk B) = ((b = true->A)/\(b = false->B)):=(rfl)
theorem zGV (b:Bool) (A B:Prop):d1 b A B = d2 b A B:=(rfl)
theorem zGW (b:Bool) (A B:Prop):d2 b (kk A) (kk B) = ((b = false->A)/\(b = true->B)):=(rfl)
theorem zn5 (b:Bool) (A B:Prop):zE5 (.v (.bool b)) A B = c1 b A B:=(rfl)
theorem zvY [zae]:cwp P T .skip Q s = Q .norm s:=(rfl)
theorem zjE [zae] (id:Nat):cwp P T (.region id ops false) Q s = zuH P T ops ops.toList s (Q .norm):=(rfl)
theorem zjF [zae] (id:Nat):cwp P T (.region id ops true) Q s = (zmf ops = true/\zf7 P T ops [] ops.toList s (Q .norm)):=(rfl)
theorem zAJ [zae] (x y:Code):cwp P T (.seq x y) Q s = cwp P T x (AX.seq (cwp P T y Q) Q) s:=(rfl)
theorem zvZ [zae] (c:Operand) (x y:Code):cwp P T (.cond c x y) Q s = zE5 (s.ev c) (kk (cwp P T x Q s)) (kk (cwp P T y Q s)):=(rfl)
theorem zro [zae] (id:Nat) (x:Code):cwp P T (.block id x) Q s = cwp P T x (AX.blk id Q) s:=(rfl)
theorem zv0 [zae] (x:Code):cwp P T (.loop x) Q s = zs8 (kk (cwp P T x)) (kk Q) s:=(rfl)
theorem zv1 [zae] (id:Nat):cwp P T (.exit id) Q s = Q (.exit id) s:=(rfl)
theorem zAK [zae]:cwp P T .ret Q s = Q .ret s:=(rfl)
theorem zrp [zae] (l:Nat):cwp P T (.label l) Q s = Q .norm s:=(rfl)
variable {K:St->Prop}
theorem zv2:AX.seq K Q .norm s = K s:=(rfl)
theorem zAL:AX.seq K Q .ret s = Q .ret s:=(rfl)
theorem zv3 (id:Nat):AX.seq K Q (.exit id) s = Q (.exit id) s:=(rfl)
theorem zv4 (id:Nat):AX.blk id Q .norm s = Q .norm s:=(rfl)
theorem zAM (id:Nat):AX.blk id Q .ret s = Q .ret s:=(rfl)
theorem zh3 (id:Nat):AX.blk id Q (.exit id) s = Q .norm s:=by simp [AX.blk]
theorem zlm (id i:Nat) (h:i ≠ id):AX.blk id Q (.exit i) s = Q (.exit i) s:=by simp [AX.blk,h]
theorem zv5 (rs:List ResultVar) (rv:RV):zMj T rs rv .ret s = zyH T s rs rv:=(rfl)
theorem zrq (rs:List ResultVar) (rv:RV):zMj T rs rv .norm s = zyH T s rs rv:=(rfl)
theorem zv6 [zae]:zuH P T ops [] s K = K s:=(rfl)
theorem zln:∀ (n:Nat) (p:Nat->Bool),(∀ k,k < n->p k = true)->zdi n p = true:=by
 intro n
 induction n with
 | zero=>intro p _;rfl
 | succ n ih=>intro p h;simp only [zdi,Bool.and_eq_true];exact ⟨h n om,ih p fun k hk=>h k om⟩
def clr (e:Ent):List Ent->Bool | []=>true | e' :: l=>!zo7 e' e && clr e l
def zh4:List Ent->Bool | []=>true | e :: l=>clr e l && zh4 l
theorem zus:∀ {l:List Ent},zh4 l = true->l.Pairwise fun a b=>zo7 b a = false:=by
 intro l
 induction l with
 | nil=>intro _;exact .nil
 | cons e l ih =>
   intro h
   simp only [zh4,Bool.and_eq_true] at h
   refine List.pairwise_cons.2 ⟨?_,ih h.2⟩
   have:∀ l':List Ent,clr e l' = true->∀ b ∈ l',zo7 b e = false:=by
    intro l'
    induction l' with
    | nil=>intro _ b hb;cases hb
    | cons x l' ih' =>
      intro h b hb
      simp only [clr,Bool.and_eq_true,Bool.not_eq_true'] at h
      rcases List.mem_cons.1 hb with rfl | hb
      ·exact h.1
      ·exact ih' h.2 b hb
   exact this l h.1
theorem zyB [zae] {l:List Ent} (h:zh4 l = true):znH ops l.reverse = true:=by
 have hp:l.reverse.Pairwise fun a b=>zo7 a b = false:=List.pairwise_reverse.2 (zus h)
 unfold znH
 refine zln _ _ fun j hj=>zln _ _ fun i hi=>?_
 split
 ·rename_i a b ha hb
  obtain ⟨h1,rfl⟩:=List.getElem?_eq_some_iff.1 ha
  obtain ⟨h2,rfl⟩:=List.getElem?_eq_some_iff.1 hb
  have:=List.pairwise_iff_getElem.1 hp i j h1 h2 hi
  rw [this];rfl
 ·rfl
def zAN (ops:Array Oper) (acc:List Ent) (A:Prop):Prop:=znH ops acc.reverse = true/\A
def lnK (b:Bool) (ops:Array Oper) (acc:List Ent) (A:Prop):Prop:=match b with | true=>A | false=>znH ops acc.reverse = true/\A
theorem zrr [zae] (acc:List Ent) (A:Prop):zAN ops acc (kk A) = lnK (zh4 acc) ops acc (kk A):=by
 unfold zAN lnK
 cases h:zh4 acc with
 | true=>simp [zyB h,kk]
 | false=>rfl
theorem zLX (acc:List Ent) (A:Prop):lnK true ops acc (kk A) = A:=(rfl)
theorem zLY (acc:List Ent) (A:Prop):lnK false ops acc (kk A) = (znH ops acc.reverse = true/\A):=(rfl)
theorem zGX:zh4 [] = true:=(rfl)
theorem zAO (e:Ent) (l:List Ent):zh4 (e :: l) = (clr e l && zh4 l):=(rfl)
theorem zAP (e:Ent):clr e [] = true:=(rfl)
theorem zv7 (e e':Ent) (l:List Ent):clr e (e' :: l) = (!zo7 e' e && clr e l):=(rfl)
def zq5 (l:List Nat) (t:Tc):Bool:=l.any t.has
theorem zv8 (t:Tc):zq5 [] t = false:=(rfl)
theorem zrs (k:Nat) (l:List Nat) (t:Tc):zq5 (k :: l) t = (t.has k || zq5 l t):=(rfl)
theorem zAQ (k:Nat):(Tc.ids []).has k = false:=(rfl)
theorem zv9 (a:Nat) (l:List Nat) (k:Nat):(Tc.ids (a :: l)).has k = (a % 1000 == k % 1000 || (Tc.ids l).has k):=(rfl)
theorem zAR (d k:Nat):(Tc.res d).has k = (k % 1000 == d % 1000):=(rfl)
theorem zGY (a b:List Nat):zo7 ⟨a,.ids []⟩ ⟨b,.ids []⟩ = false:=by
 have e:∀ l:List Nat,l.any (Tc.ids []).has = false:=fun l=>by
  rw [List.any_eq_false];intro x _;simp [Tc.has]
 simp [zo7,e,zhc]
theorem zAS (a b t u:List Nat):zo7 ⟨a,.ids t⟩ ⟨b,.ids u⟩ = (zq5 a (.ids u) || (zq5 b (.ids t) || zq5 t (.ids u))):=by simp [zo7,zq5,zhc,Bool.or_assoc]
theorem zAT (a b t:List Nat) (d:Nat):zo7 ⟨a,.ids t⟩ ⟨b,.res d⟩ = (zq5 a (.res d) || (zq5 b (.ids t) || zq5 t (.res d))):=by simp [zo7,zq5,zhc,Bool.or_assoc]
theorem zAU (a b t:List Nat) (d:Nat):zo7 ⟨a,.res d⟩ ⟨b,.ids t⟩ = (zq5 a (.ids t) || (zq5 b (.res d) || zq5 t (.res d))):=by simp [zo7,zq5,zhc,Bool.or_assoc]
theorem zAV (a b:List Nat) (d d':Nat):zo7 ⟨a,.res d⟩ ⟨b,.res d'⟩ = (zq5 a (.res d') || (zq5 b (.res d) || (d % 1000 == d' % 1000))):=by simp [zo7,zq5,zhc,Bool.or_assoc]
theorem zrt [zae] (acc:List Ent):zf7 P T ops acc [] s K = zAN ops acc (kk (K s)):=(rfl)
def gK (d:Option Nat) (want:Bool) (s:St) (A B:Nat->Prop) (N:Prop):Prop :=
 match d with
 | some d=>(match s.sl d with | .v (.bool b)=>(b = want->A d)/\(b = !want->B d) | .v (.tuple _)=>N | _=>False)
 | none=>False
def gK1 (want:Bool) (p:PV) (A B N:Prop):Prop:=match p with | .v (.bool b)=>(b = want->A)/\(b = !want->B) | .v (.tuple _)=>N | _=>False
theorem zAW (d:Nat) (want:Bool) (A B:Nat->Prop) (N:Prop):gK (some d) want s A B N = gK1 want (s.sl d) (kk (A d)) (kk (B d)) N:=(rfl)
theorem zru (want:Bool) (A B N:Prop):gK1 want (.v undef) A B (kk N) = N:=(rfl)
theorem zwa (b:Bool) (A B N:Prop):gK1 true (.v (.bool b)) A B N = c1 b A B:=(rfl)
theorem zrv (b:Bool) (A B N:Prop):gK1 false (.v (.bool b)) A B N = d1 b A B:=(rfl)
theorem zrw [zae] {dst:Option Nat} {op:Op} {ty:TypeId} {pos:String} {af:Array Edge} {os:List Oper} :
 zuH P T ops (⟨dst,op,ty,pos,af,none⟩ :: os) s K = zew P T s ⟨dst,op,ty,pos,af,none⟩ (fun s2=>zuH P T ops os s2 K):=(rfl)
theorem zn6 [zae] {dst:Option Nat} {op:Op} {ty:TypeId} {pos:String} {af:Array Edge} {j:Nat} {want:Bool} {os:List Oper} :
 zuH P T ops (⟨dst,op,ty,pos,af,some (j,want)⟩ :: os) s K = gK ((ops[j]?).bind (·.dst)) want s
  (kk fun d=>zew P T (s.put (some d) (.v (.bool want))) ⟨dst,op,ty,pos,af,some (j,want)⟩ (fun s2=>zuH P T ops os s2 K))
  (kk fun d=>zuH P T ops os ((s.put (some d) (.v (.bool !want))).put dst (.v undef)) K) (kk (zuH P T ops os (s.put dst (.v undef)) K)):=(rfl)
theorem zGZ (l:List Oper) (j:Nat):((⟨l⟩:Array Oper)[j]?) = l[j]?:=sp
theorem getElem?_zero {α:Type} (a:α) (l:List α):(a :: l)[0]? = some a:=(rfl)
theorem getElem?_succ {α:Type} (a:α) (l:List α) (i:Nat):(a :: l)[i + 1]? = l[i]?:=(rfl)
theorem zrx (o:Oper):(some o).bind (·.dst) = o.dst:=(rfl)
theorem zn7 [zae] {dst:Option Nat} {op:Op} {ty:TypeId} {pos:String} {af:Array Edge} {os:List Oper} (acc:List Ent) :
 zf7 P T ops acc (⟨dst,op,ty,pos,af,none⟩ :: os) s K = dK P T s ⟨dst,op,ty,pos,af,none⟩ (kk fun e s2=>zf7 P T ops (e :: acc) os s2 K):=(rfl)
theorem zlo [zae] {dst:Option Nat} {op:Op} {ty:TypeId} {pos:String} {af:Array Edge} {j:Nat} {want:Bool} {os:List Oper} (acc:List Ent) :
 zf7 P T ops acc (⟨dst,op,ty,pos,af,some (j,want)⟩ :: os) s K = gK ((ops[j]?).bind (·.dst)) want s
  (kk fun d=>dK P T (s.put (some d) (.v (.bool want))) ⟨dst,op,ty,pos,af,some (j,want)⟩ (kk fun e s2=>zf7 P T ops (e :: acc) os s2 K))
  (kk fun d=>zf7 P T ops (⟨[],.ids []⟩ :: acc) os ((s.put (some d) (.v (.bool !want))).put dst (.v undef)) K) (kk (zf7 P T ops (⟨[],.ids []⟩ :: acc) os (s.put dst (.v undef)) K)):=(rfl)
def zdE (l:List PV) (acc:List Nat) (Kn:List Nat->Prop):Prop:=Kn (acc ++ l.flatMap ze3)
def zq6 (l:List PV) (acc:List Nat) (Kn:List Nat->Prop):Prop:=Kn (acc ++ l.flatMap zHE)
section
variable (l:List PV) (acc:List Nat) (Kn:List Nat->Prop)
theorem zwb:zdE [] acc (kk Kn) = Kn acc:=by simp [zdE,kk]
theorem zG0 (x:Value):zdE (.v x :: l) acc (kk Kn) = zdE l acc (kk Kn):=(rfl)
theorem zAX (fr:Bool) (z:Nat) (c:List PV):zdE (.sl fr z c :: l) acc (kk Kn) = zdE l acc (kk Kn):=(rfl)
theorem zry (fr:Bool) (c:List PV) (o:Nat):zdE (.eref fr c o :: l) acc (kk Kn) = zdE l acc (kk Kn):=(rfl)
theorem zwc (f:FuncId) (c:List PV):zdE (.clo f c :: l) acc (kk Kn) = zdE l acc (kk Kn):=(rfl)
theorem zwd (c:List PV):zdE (.tup c :: l) acc (kk Kn) = zdE l acc (kk Kn):=(rfl)
theorem zrz:zdE (.junk :: l) acc (kk Kn) = zdE l acc (kk Kn):=(rfl)
theorem zwe (k v:Nat):zdE (.own k v :: l) acc (kk Kn) = zdE l (acc ++ [k % 1000]) (kk Kn):=by simp [zdE,kk,ze3,List.flatMap_cons]
theorem zwf (k v o:Nat):zdE (.ref k v o :: l) acc (kk Kn) = zdE l (acc ++ [k % 1000]) (kk Kn):=by simp [zdE,kk,ze3,List.flatMap_cons]
theorem zAY (c:List PV):zdE (.ag c :: l) acc (kk Kn) = zq6 c acc (kk fun acc'=>zdE l acc' (kk Kn)):=by simp [zdE,zq6,kk,ze3,List.flatMap_cons]
theorem zwg:zq6 [] acc (kk Kn) = Kn acc:=by simp [zq6,kk]
theorem zG1 (x:Value):zq6 (.v x :: l) acc (kk Kn) = zq6 l acc (kk Kn):=(rfl)
theorem zAZ (fr:Bool) (z:Nat) (c:List PV):zq6 (.sl fr z c :: l) acc (kk Kn) = zq6 l acc (kk Kn):=(rfl)
theorem zrA (fr:Bool) (c:List PV) (o:Nat):zq6 (.eref fr c o :: l) acc (kk Kn) = zq6 l acc (kk Kn):=(rfl)
theorem zwh (f:FuncId) (c:List PV):zq6 (.clo f c :: l) acc (kk Kn) = zq6 l acc (kk Kn):=(rfl)
theorem zwi (k v:Nat):zq6 (.own k v :: l) acc (kk Kn) = zq6 l (acc ++ [k % 1000]) (kk Kn):=by simp [zq6,kk,zHE,List.flatMap_cons]
theorem zwj (k v o:Nat):zq6 (.ref k v o :: l) acc (kk Kn) = zq6 l (acc ++ [k % 1000]) (kk Kn):=by simp [zq6,kk,zHE,List.flatMap_cons]
end
def zfL (rw:Nat->Row) (n:Nat) (l:List PV) (acc:List Nat) (Kn:List Nat->Prop):Prop:=Kn (acc ++ l.flatMap (zeM rw n))
def zlp (r:Row) (rw:Nat->Row) (n:Nat) (acc:List Nat) (Kn:List Nat->Prop):Prop:=Kn (acc ++ (match r.kind with | .box _ c=>c.flatMap (zeM rw n) | _=>[]))
def zlq (r:Row) (k:Nat) (acc:List Nat) (Kn:List Nat->Prop):Prop:=Kn (acc ++ (match r.kind with | .tab _ c=>zuB k c | _=>[]))
section
variable (rw:Nat->Row) (n:Nat) (l:List PV) (acc:List Nat) (Kn:List Nat->Prop)
theorem zwk:zfL rw n [] acc (kk Kn) = Kn acc:=by simp [zfL,kk]
theorem zrB:zfL rw 0 l acc (kk Kn) = Kn acc:=by
 have:l.flatMap (zeM rw 0) = []:=by simp [zeM]
 unfold zfL kk
 rw [this,List.append_nil]
theorem zG2 (x:Value):zfL rw (n + 1) (.v x :: l) acc (kk Kn) = zfL rw (n + 1) l acc (kk Kn):=by simp [zfL,zeM,List.flatMap_cons]
theorem zA0 (fr:Bool) (z:Nat) (c:List PV):zfL rw (n + 1) (.sl fr z c :: l) acc (kk Kn) = zfL rw (n + 1) l acc (kk Kn):=by simp [zfL,zeM,List.flatMap_cons]
theorem zrC (fr:Bool) (c:List PV) (o:Nat):zfL rw (n + 1) (.eref fr c o :: l) acc (kk Kn) = zfL rw (n + 1) l acc (kk Kn):=by simp [zfL,zeM,List.flatMap_cons]
theorem zrD:zfL rw (n + 1) (.junk :: l) acc (kk Kn) = zfL rw (n + 1) l acc (kk Kn):=by simp [zfL,zeM,List.flatMap_cons]
theorem zwl (k v:Nat):zfL rw (n + 1) (.own k v :: l) acc (kk Kn) = zlq (rw k) k (acc ++ [k % 1000]) (kk fun acc'=>zfL rw (n + 1) l acc' (kk Kn)):=by
 simp only [zfL,zlq,kk,List.flatMap_cons]
 rw [zeM]
 cases (rw k).kind <;> simp
theorem zn8 (k ver e z:Nat) (fz:Bool) (c:List PV):zlq ⟨ver,.sli e z fz c⟩ k acc (kk Kn) = Kn acc:=by simp [zlq,kk]
theorem zn9 (k ver:Nat):zlq ⟨ver,.nil⟩ k acc (kk Kn) = Kn acc:=by simp [zlq,kk]
theorem zoa (k ver e:Nat) (c:List PV):zlq ⟨ver,.tab e c⟩ k acc (kk Kn) = Kn (acc ++ zuB k c):=(rfl)
theorem zlr [zae] (k:Nat) (p:List Nat):zuB k (zaJ k p) = []:=by
 unfold zuB zaJ
 rw [List.flatMap_eq_nil_iff]
 intro q hq
 obtain ⟨j,_,rfl⟩:=List.mem_map.1 hq
 simp [zdx]
theorem zrE (rw':Nat->Row) (k m:Nat):zuB k (zaX rw' k 0 m) = []:=by
 unfold zuB zaX
 rw [List.flatMap_eq_nil_iff]
 intro q hq
 obtain ⟨j,_,rfl⟩:=List.mem_map.1 hq
 simp [zak]
theorem zA1 (c:List PV):zfL rw (n + 1) (.ag c :: l) acc (kk Kn) = zfL rw n c acc (kk fun acc'=>zfL rw (n + 1) l acc' (kk Kn)):=by simp [zfL,zeM,List.flatMap_cons,kk]
theorem zwm (f:FuncId) (c:List PV):zfL rw (n + 1) (.clo f c :: l) acc (kk Kn) = zfL rw n c acc (kk fun acc'=>zfL rw (n + 1) l acc' (kk Kn)):=by simp [zfL,zeM,List.flatMap_cons,kk]
theorem zwn (k v o:Nat):zfL rw (n + 1) (.ref k v o :: l) acc (kk Kn) = zlp (rw k) rw n (acc ++ [k % 1000]) (kk fun acc'=>zfL rw (n + 1) l acc' (kk Kn)):=by
 simp only [zfL,zlp,kk,List.flatMap_cons]
 rw [zeM]
 cases (rw k).kind <;> simp
theorem zob (ver:Nat) (t:TypeId) (c:List PV):zlp ⟨ver,.box t c⟩ rw n acc (kk Kn) = zfL rw n c acc (kk Kn):=(rfl)
theorem zoc (ver e z:Nat) (fz:Bool) (c:List PV):zlp ⟨ver,.sli e z fz c⟩ rw n acc (kk Kn) = Kn acc:=by simp [zlp,kk]
theorem zod (ver:Nat):zlp ⟨ver,.nil⟩ rw n acc (kk Kn) = Kn acc:=by simp [zlp,kk]
end
section
variable {dst:Option Nat} {ty:TypeId} {pos:String} {af:Array Edge} {g:Option (Nat × Bool)}
theorem zwo [zae] (x:Operand):opK P T s ⟨dst,.move x,ty,pos,af,g⟩ K = evK (s.ev x) (kk fun p=>K (s.put dst p)):=(rfl)
theorem zg4 [zae] (t:Nat):opK P T s ⟨dst,.assign (.tmp t),ty,pos,af,g⟩ K = evK (s.sl t) (kk fun p=>K (s.put dst p)):=(rfl)
theorem zg5 [zae] (k:IntKind) (n:Int):opK P T s ⟨dst,.assign (.const (.int k n)),ty,pos,af,g⟩ K = K (s.put dst (.v (.int k n))):=(rfl)
theorem zfZ [zae] (b:Bool):opK P T s ⟨dst,.assign (.const (.bool b)),ty,pos,af,g⟩ K = K (s.put dst (.v (.bool b))):=(rfl)
theorem zeG [zae] (b:ByteArray):opK P T s ⟨dst,.assign (.const (.string b)),ty,pos,af,g⟩ K = K (s.put dst (.v (.string b))):=(rfl)
theorem zg6 [zae] (cs:List Value):opK P T s ⟨dst,.assign (.const (.agg ⟨cs⟩)),ty,pos,af,g⟩ K = K (s.put dst (.ag (cs.map PV.v))):=(rfl)
def nilRow (T:Tab) (k:TK):RK:=match k with | .sli e=>.sli e (T e).size false [] | _=>.nil
theorem zoe (e:TypeId):nilRow T (.sli e) = .sli e (T e).size false []:=(rfl)
theorem zg7 [zae] (d:Nat):opK P T s ⟨some d,.assign (.const (.slice none 0 0)),ty,pos,af,g⟩ K = K (zcX s d (nilRow T (T ty).k) fun v=>.own d v):=(rfl)
theorem zwp [zae] (c x y:Operand):opK P T s ⟨dst,.pick c x y,ty,pos,af,g⟩ K = zE5 (s.ev c) (kk (evK (s.ev x) (kk fun p=>K (s.put dst p)))) (kk (evK (s.ev y) (kk fun p=>K (s.put dst p)))):=(rfl)
theorem zA2 [zae] (op:BinOp) (t t2:TypeId) (x y:Operand):opK P T s ⟨dst,.binOp op t x y t2,ty,pos,af,g⟩ K = zdw T op t (s.ev x) (s.ev y) (kk fun p=>K (s.put dst p)):=(rfl)
theorem zG3 [zae] (op:UnOp) (t:TypeId) (x:Operand):opK P T s ⟨dst,.unOp op t x,ty,pos,af,g⟩ K = unK op (s.ev x) (kk fun p=>K (s.put dst p)):=(rfl)
theorem zls [zae] (a b:TypeId) (x:Operand):opK P T s ⟨dst,.convert a b x,ty,pos,af,g⟩ K = zg0 T s.rw a b (s.ev x) (kk fun p=>K (s.put dst p)):=(rfl)
theorem zwq [zae] (t:TypeId) (x:Operand):opK P T s ⟨dst,.load t x,ty,pos,af,g⟩ K = zue s.rw (s.ev x) (kk fun m c off=>ldK T t m c off (kk fun p=>K (s.put dst p))):=(rfl)
theorem zh5 [zae] (t:TypeId) (x:Operand) (f:Nat):opK P T s ⟨dst,.fieldAddr t x f,ty,pos,af,g⟩ K =
 zei T t f (kk fun o _=>zmu (s.ev x) = true/\zdW s.rw (s.ev x) (kk (evK (zeP (s.ev x) o) (kk fun p=>K (s.put dst p))))):=(rfl)
def agK (p:PV) (K:List PV->Prop):Prop:=match p with | .ag c=>K c | _=>False
theorem zG4 (c:List PV) (Kc:List PV->Prop):agK (.ag c) Kc = Kc c:=(rfl)
def zNw (p:PV) (K:List PV->Prop):Prop:=match p with | .tup c=>K c | _=>False
theorem zwr (c:List PV) (Kc:List PV->Prop):zNw (.tup c) Kc = Kc c:=(rfl)
theorem zlt [zae] (t:TypeId) (x:Operand) (f:Nat):opK P T s ⟨dst,.field t x f,ty,pos,af,g⟩ K =
 agK (s.ev x) (kk fun c=>zei T t f (kk fun o ft=>ldK T ft .asis c o (kk fun p=>K (s.put dst p)))):=by
 show zei T t f (fun o ft=>(match s.ev x with | .ag c=>ldK T ft .asis c o fun p=>K (s.put dst p) | _=>False)) = _
 unfold zei agK kk
 cases s.ev x
 case ag c=>rfl
 all_goals
  refine propext ⟨fun h=>?_,fun h=>h.elim⟩
  obtain ⟨_,h⟩:=h
  split at h
  ·split at h
   ·exact h.2.elim
   ·exact h.elim
  ·exact h.elim
theorem zof [zae] (t:TypeId) (x i:Operand):opK P T s ⟨dst,.lookup t x i false,ty,pos,af,g⟩ K = zkk T s.rw t (s.ev x) (s.ev i) (kk fun p=>K (s.put dst p)):=by
 show (false = false/\zkk T s.rw t (s.ev x) (s.ev i) (fun p=>K (s.put dst p))) = _
 simp [kk]
theorem zlu [zae] (d:Nat) (t:TypeId):opK P T s ⟨some d,.makeMap t none,ty,pos,af,g⟩ K = K (zcX s d (.mp fun _=>0) fun v=>.own d v):=(rfl)
theorem zh6 [zae] (t:TypeId) (m x y:Operand):opK P T s ⟨none,.mapUpdate t m x y,ty,pos,af,g⟩ K = zKq T s t (s.ev m) (s.ev x) (s.ev y) (kk K):=by
 show ((none:Option Nat) = none/\zKq T s t (s.ev m) (s.ev x) (s.ev y) K) = _
 simp [kk]
theorem zh7 [zae] (t:TypeId) (x i:Operand):opK P T s ⟨dst,.indexAddr t x i,ty,pos,af,g⟩ K = zbz T s.rw t (s.ev x) (s.ev i) (kk fun p=>K (s.put dst p)):=(rfl)
def zws (T:Tab) (t:TypeId) (x i:PV) (K:PV->Prop):Prop:=0 < (T t).size/\(match (T t).k,x,i with
 | .str,.v (.string s),.v (.int _ n)=>0 <= n/\n.toNat < s.size/\K (.v (.int .u8 ((s.data.toList.getD n.toNat 0).toNat:Int)))
 | .arr len e,.ag c,.v (.int _ n)=>0 <= n/\n < len/\ldK T e .asis c (n.toNat * (T e).size) K
 | _,_,_=>False)
theorem zrF [zae] (t:TypeId) (x i:Operand):opK P T s ⟨dst,.index t x i,ty,pos,af,g⟩ K = zws T t (s.ev x) (s.ev i) (kk fun p=>K (s.put dst p)):=(rfl)
theorem zlv [zae] (x:Operand) (i:Nat):opK P T s ⟨dst,.extract x i,ty,pos,af,g⟩ K = zNw (s.ev x) (kk fun ps=>i < ps.length/\evK (ps.getD i .junk) (kk fun p=>K (s.put dst p))):=(rfl)
theorem zjG [zae] (x:Operand):opK P T s ⟨dst,.nilCheck x,ty,pos,af,g⟩ K = zdW s.rw (s.ev x) (kk (evK (s.ev x) (kk fun p=>K (s.put dst p)))):=(rfl)
theorem zjH [zae] (f:FuncId) (caps:Array Operand):opK P T s ⟨dst,.makeFunc (.func f) #[] caps,ty,pos,af,g⟩ K = K (s.put dst (.clo f (caps.toList.map s.ev))):=by
 show (#[] = (#[]:Array Operand)/\K (s.put dst (.clo f (caps.toList.map s.ev)))) = _
 simp
theorem zA3 [zae] (x:Operand) (t:TypeId):opK P T s ⟨dst,.call ⟨.builtin .len,#[x],#[t]⟩,ty,pos,af,g⟩ K = zCZ T s.rw t (s.ev x) (kk fun p=>K (s.put dst p)):=(rfl)
theorem zA4 [zae] (x y:Operand) (ts:Array TypeId):opK P T s ⟨dst,.call ⟨.builtin .max,#[x,y],ts⟩,ty,pos,af,g⟩ K = zc9 true (s.ev x) (s.ev y) (kk fun p=>K (s.put dst p)):=(rfl)
theorem zA5 [zae] (x y:Operand) (ts:Array TypeId):opK P T s ⟨dst,.call ⟨.builtin .min,#[x,y],ts⟩,ty,pos,af,g⟩ K = zc9 false (s.ev x) (s.ev y) (kk fun p=>K (s.put dst p)):=(rfl)
theorem zog [zae] (d:Nat) (x y:Operand) (t t2:TypeId):opK P T s ⟨some d,.call ⟨.builtin .append,#[x,y],#[t,t2]⟩,ty,pos,af,g⟩ K = zmm T s d t t2 (s.ev x) (s.ev y) (kk K):=(rfl)
def zEC (p:PV) (K:FuncId->List PV->Prop):Prop:=match p with | .clo g caps=>K g caps | _=>False
theorem zwt (g:FuncId) (c:List PV) (Kc:FuncId->List PV->Prop):zEC (.clo g c) Kc = Kc g c:=(rfl)
def zf0 [zae] (P:Program) (f:FuncId) (args:List PV) (K:RV->Prop) (M:Prop):Prop:=(∃ rv,AC P f args rv/\K rv) \/ M
theorem zaa [zae] {f:FuncId} {args:List PV} {Kr:RV->Prop} {u:Dm Kr} {rv:RV} {M:Prop} (h:AC P f args rv) (hk:Kr rv):zf0 P f args (kk Kr u) M:=.inl ⟨rv,h,hk⟩
def znD [zae] (P:Program) (f:FuncId) (args raw:List PV) (dst:Option Nat) (s:St) (K:St->Prop):Prop:=zPg P s f raw dst K \/ zNg P s f raw dst K \/ zIJ P s f args dst K \/ askG P s f raw dst K
theorem zlw [zae] {f:FuncId} {args raw lent:List PV} {ins:List LR} {outs:List (List PV)} {x:Value} {Ka:RV->Prop} {dst:Option Nat} {us:Dm s} {u:Dm K} (h:AM P f args ins outs x) (js:List (Nat × Nat))
 (hg:GiveL js raw args) (hh:zqp s.rw js ins) (hn:(js.map (·.1)).Nodup) (hk:K ((s.wrote js ins outs).put dst (.v x))):zf0 P f lent Ka (znD P f lent raw dst (kk s us) (kk K u)):=.inr (.inl ⟨js,ins,args,outs,x,h,hg,hh,hn,hk⟩)
theorem zIr [zae] {f:FuncId} {args raw lent:List PV} {k v e e2:Nat} {p:List Nat} {rows rows':List (List PV)} {res:TR} {Ka:RV->Prop} {dst:Option Nat} {us:Dm s} {u:Dm K} (h:AT P f args e e2 rows rows' res)
 (hg:GiveL [(k,v)] raw args) (ht:TabIs s.rw k v e e2 p rows) (hn:p.Nodup)
 (hk:∀ p':List Nat,p'.Perm p->res.next (s.tabbed k v e e2 p' rows') k v dst K):zf0 P f lent Ka (znD P f lent raw dst (kk s us) (kk K u)) :=
 .inr (.inr (.inl ⟨k,v,e,e2,p,rows,rows',args,res,h,hg,ht,hn,hk⟩))
theorem zE6 [zae] {f:FuncId} {args raw:List PV} {Ka:RV->Prop} {d:Nat} {us:Dm s} {u:Dm K} {rv:RV} (s':St) (h:AC P f args rv) (hw:Wk (zal s d rv) s') (hk:K s'):zf0 P f args Ka (znD P f args raw (some d) (kk s us) (kk K u)) :=
 .inr (.inr (.inr (.inl ⟨rv,s',h,hw,hk⟩)))
theorem zut [zae] {f:FuncId} {args raw lent:List PV} {R0:Nat->Row} {post:(Nat->Row)->PV->Prop} {Ka:RV->Prop} {dst:Option Nat} {us:Dm s} {u:Dm K} (h:AG P f args R0 post) (rho:Nat->Option Nat) (Ln:Nat->Prop) (hl:GvL rho Ln R0 s.rw args raw) (hg:Give rho Ln R0 s.rw)
 (hk:∀ R1 p,post R1 p->∃ (rho1:Nat->Option Nat) (nv:Nat->Nat) (nl:Bool),Back rho rho1 R1 nv nl Ln R0 s.rw/\∀ S:St,After s S dst rho1 nv nl R1 p->K S):zf0 P f lent Ka (znD P f lent raw dst (kk s us) (kk K u)) :=
 .inr (.inr (.inr (.inr ⟨args,R0,post,rho,Ln,h,hl,hg,hk⟩)))
def zi6 (s:St) (l:List Operand):List PV:=l.map fun x=>zcS s.rw zgZ (s.ev x)
theorem zrG:zi6 s [] = []:=(rfl)
theorem zoh (x:Operand) (l:List Operand):zi6 s (x :: l) = zcS s.rw 3 (s.ev x) :: zi6 s l:=(rfl)
def zA6 (s:St) (l:List Operand):List PV:=l.map s.ev
theorem zwu:zA6 s [] = []:=(rfl)
theorem zrH (x:Operand) (l:List Operand):zA6 s (x :: l) = s.ev x :: zA6 s l:=(rfl)
theorem zE7 [zae] (f:Operand) (args:List Operand) (Kr:RV->Prop):ze8 P s.rw s.ev f ⟨args⟩ Kr = zEC (s.ev f) (kk fun g caps=>zf0 P g (zi6 s args ++ caps.map (zcS s.rw 3)) (kk Kr) False):=by
 unfold ze8 zEC zf0
 cases s.ev f <;> first | rfl | simp [kk,zi6,zgZ]
theorem zwv [zae] (f:Operand) (args:List Operand) (Kr:RV->Prop) (dst:Option Nat):((ze8 P s.rw s.ev f ⟨args⟩ Kr \/ zCI P s f ⟨args⟩ dst K) \/ (match s.ev f with
 | .clo g caps=>zNg P s g (args.map s.ev ++ caps) dst K \/ zIJ P s g ((args.map fun x=>zcS s.rw zgZ (s.ev x)) ++ caps.map (zcS s.rw zgZ)) dst K \/ askG P s g (args.map s.ev ++ caps) dst K
 | _=>False)) =
 zEC (s.ev f) (kk fun g caps=>zf0 P g (zi6 s args ++ caps.map (zcS s.rw 3)) (kk Kr) (znD P g (zi6 s args ++ caps.map (zcS s.rw 3)) (zA6 s args ++ caps) dst (kk s) (kk K))):=by
 unfold ze8 zCI zEC
 cases s.ev f <;> first | (simp;done) | skip
 unfold kk zf0 znD
 exact propext or_assoc
theorem zrI [zae] (d:Nat) (f:Operand) (args:List Operand) (ts:Array TypeId):zew P T s ⟨some d,.call ⟨.value f,⟨args⟩,ts⟩,ty,pos,af,g⟩ K =
 zEC (s.ev f) (kk fun g caps=>zf0 P g (zi6 s args ++ caps.map (zcS s.rw 3)) (kk fun rv=>K (zal s d rv)) (znD P g (zi6 s args ++ caps.map (zcS s.rw 3)) (zA6 s args ++ caps) (some d) (kk s) (kk K))):=zwv (P:=P) f args _ _
theorem zg8 [zae] (f:Operand) (args:List Operand) (ts:Array TypeId):zew P T s ⟨none,.call ⟨.value f,⟨args⟩,ts⟩,ty,pos,af,g⟩ K =
 zEC (s.ev f) (kk fun g caps=>zf0 P g (zi6 s args ++ caps.map (zcS s.rw 3)) (kk fun _=>K s) (znD P g (zi6 s args ++ caps.map (zcS s.rw 3)) (zA6 s args ++ caps) none (kk s) (kk K))):=zwv (P:=P) f args _ _
theorem zrJ [zae] (b:Builtin) (args:Array Operand) (ts:Array TypeId) (h:(match b with | .append=>false | _=>true) = true):zew P T s ⟨dst,.call ⟨.builtin b,args,ts⟩,ty,pos,af,g⟩ K = opK P T s ⟨dst,.call ⟨.builtin b,args,ts⟩,ty,pos,af,g⟩ K:=by
 cases b <;> first | rfl | cases h
theorem zrK [zae] (d:Nat) (t:TypeId):opK P T s ⟨some d,.alloc t,ty,pos,af,g⟩ K = (0 < (T t).size/\K (zcX s d (.box t ((T t).zero.map PV.v)) fun v=>.ref d v 0)):=(rfl)
theorem zA7 [zae] (d:Nat) (t:TypeId) (x:Operand):opK P T s ⟨some d,.box t x,ty,pos,af,g⟩ K = za5 s.rw (s.ev x) (kk fun c=>K (zcX s d (.box t c) fun v=>.ref d v 0)):=(rfl)
def evs (s:St) (l:List (Nat × Operand)):List PV:=l.map fun x=>s.ev x.2
theorem zA8:evs s [] = []:=(rfl)
theorem zww (n:Nat) (x:Operand) (l:List (Nat × Operand)):evs s ((n,x) :: l) = s.ev x :: evs s l:=(rfl)
def zA9 (T:Tab) (s:St) (d:Nat) (kd:TK) (z n:Nat) (parts:List (Nat × Operand)) (K:St->Prop):Prop :=
 0 < z/\match kd with
 | .sli e=>0 < (T e).size/\n = parts.length/\zqq 0 parts = true/\n * (T e).size <= 16777216 /\
  znJ s.rw (T e).size (evs s parts) fun c f=>d ∉ f/\K (((s.freeze f).row d ⟨(s.rw d).ver + 1,.sli e (T e).size false c⟩).put (some d) (.own d ((s.rw d).ver + 1)))
 | _=>False
theorem zg9 [zae] (d:Nat) (t:TypeId) (n:Nat) (parts:List (Nat × Operand)):opK P T s ⟨some d,.buildSlice t n ⟨parts⟩,ty,pos,af,g⟩ K = zA9 T s d (T t).k (T t).size n parts (kk K):=(rfl)
def lit (c:List PV):List PV:=c
def zLZ (a:List Int) (c:List PV):List PV:=iL a ++ c
def zL0 (a:List ByteArray) (c:List PV):List PV:=sL a ++ c
def zL1 (a:List Bool) (c:List PV):List PV:=bL a ++ c
def zL2 (a:List (List Int)) (c:List PV):List PV:=iLL a ++ c
theorem zp2:lit [] = []:=(rfl)
theorem zp3 (n:Int) (l:List PV):lit (.v (.int .i64 n) :: l) = zLZ [n] l:=(rfl)
theorem zp4 (n:ByteArray) (l:List PV):lit (.v (.string n) :: l) = zL0 [n] l:=(rfl)
theorem zkE (n:Bool) (l:List PV):lit (.v (.bool n) :: l) = zL1 [n] l:=(rfl)
theorem zwx (n:List Int) (l:List PV):lit (.sl false 1 (iL n) :: l) = zL2 [n] l:=(rfl)
theorem zkF (a:List Int):zLZ a [] = iL a:=List.append_nil _
theorem zkG (a:List ByteArray):zL0 a [] = sL a:=List.append_nil _
theorem zkH (a:List Bool):zL1 a [] = bL a:=List.append_nil _
theorem zkI (a:List (List Int)):zL2 a [] = iLL a:=List.append_nil _
theorem zh8 (a:List Int) (n:Int) (l:List PV):zLZ a (.v (.int .i64 n) :: l) = zLZ (a ++ [n]) l:=by simp [zLZ,iL]
theorem zh9 (a:List ByteArray) (n:ByteArray) (l:List PV):zL0 a (.v (.string n) :: l) = zL0 (a ++ [n]) l:=by simp [zL0,sL]
theorem zia (a:List Bool) (n:Bool) (l:List PV):zL1 a (.v (.bool n) :: l) = zL1 (a ++ [n]) l:=by simp [zL1,bL]
theorem zib (a:List (List Int)) (n:List Int) (l:List PV):zL2 a (.sl false 1 (iL n) :: l) = zL2 (a ++ [n]) l:=by simp [zL2,iLL]
theorem zoi (d e n:Nat) (parts:List (Nat × Operand)) (h2:(T e).size = 1) :
 zA9 T s d (.sli e) 1 n parts K = (n = parts.length/\zqq 0 parts = true/\n <= 16777216/\znJ s.rw 1 (evs s parts) (kk fun c f=>d ∉ f/\K (((s.freeze f).row d ⟨(s.rw d).ver + 1,.sli e 1 false (lit c)⟩).put (some d) (.own d ((s.rw d).ver + 1))))):=by
 unfold zA9 kk
 simp only [h2,Nat.one_pos,true_and,Nat.mul_one]
 rfl
theorem zrL (i:Nat):zqq i [] = true:=(rfl)
theorem zoj (i j:Nat) (x:Operand) (l:List (Nat × Operand)):zqq i ((j,x) :: l) = (j == i && zqq (i + 1) l):=(rfl)
theorem zrM (rw:Nat->Row) (es:Nat) (Kp:List PV->List Nat->Prop):znJ rw es [] (kk Kp) = Kp [] []:=(rfl)
theorem zok (rw:Nat->Row) (es:Nat) (p:PV) (ps:List PV) (Kp:List PV->List Nat->Prop):znJ rw es (p :: ps) (kk Kp) = zds rw p (kk fun c f=>c.length = es/\znJ rw es ps (kk fun cs fs=>Kp (c ++ cs) (f ++ fs))):=(rfl)
theorem zrN [zae] (t:TypeId) (ad x:Operand):opK P T s ⟨none,.store t ad x,ty,pos,af,g⟩ K = zto T s t (s.ev ad) (s.ev x) (kk K):=by
 show ((none:Option Nat) = none/\zto T s t (s.ev ad) (s.ev x) K) = _
 simp [kk]
def zIs (T:Tab) (t:TypeId) (l c:PV) (K:TypeId->List PV->Prop):Prop :=
 match (T t).k,l,c with
 | .sli e,.v (.int _ nl),.v (.int _ nc)=>0 < (T t).size/\(T e).size = 1/\(match (T e).zero with
  | [z]=>0 <= nl/\nl <= nc/\((T e).bytes:Int) * nc <= 281474976710656/\nc <= 9223372036854775807/\K e (List.replicate nl.toNat (.v z))
  | _=>False)
 | _,_,_=>False
theorem zwy [zae] (d:Nat) (t:TypeId) (l c:Operand):opK P T s ⟨some d,.makeSlice t l c,ty,pos,af,g⟩ K = zIs T t (s.ev l) (s.ev c) (kk fun e cs=>K (zcX s d (.sli e 1 false cs) fun v=>.own d v)):=by
 unfold zIs kk
 simp only [opK]
 generalize (T t).k = a
 generalize s.ev l = b
 generalize s.ev c = e
 cases a <;> first | rfl | skip
 cases b <;> first | rfl | skip
 rename_i v
 cases v <;> first | rfl | skip
 cases e <;> first | rfl | skip
 rename_i v
 cases v <;> rfl
def zIt (T:Tab) (kd:TK) (z:Nat) (l c:PV) (K:TypeId->List PV->Prop):Prop :=
 match kd,l,c with
 | .sli e,.v (.int _ nl),.v (.int _ nc)=>0 < z/\(T e).size = 1/\(match (T e).zero with
  | [z]=>0 <= nl/\nl <= nc/\((T e).bytes:Int) * nc <= 281474976710656/\nc <= 9223372036854775807/\K e (List.replicate nl.toNat (.v z))
  | _=>False)
 | _,_,_=>False
theorem zBa (t:TypeId) (l c:PV) (Kc:TypeId->List PV->Prop):zIs T t l c Kc = zIt T (T t).k (T t).size l c Kc:=(rfl)
def zIu (zs:List Value) (K:Value->Prop):Prop:=match zs with | [z]=>K z | _=>False
theorem zrO (z:Value) (Kz:Value->Prop):zIu [z] Kz = Kz z:=(rfl)
theorem zrP {e:TypeId} {k1 k2:IntKind} {nl nc:Int} {Kc:TypeId->List PV->Prop} (h2:(T e).size = 1) :
 zIt T (.sli e) 1 (.v (.int k1 nl)) (.v (.int k2 nc)) Kc = zIu (T e).zero (kk fun z=>0 <= nl/\nl <= nc/\((T e).bytes:Int) * nc <= 281474976710656/\nc <= 9223372036854775807/\Kc e (List.replicate nl.toNat (.v z))):=by
 unfold zIt zIu kk
 simp only [h2,Nat.one_pos,true_and]
def zKm (T:Tab) (s:St) (t:TypeId) (x:PV) (lo hi mx:Option Operand) (K:List Nat->PV->Prop):Prop :=
 match x with
 | .own k ver=>(match (s.rw k).kind with
  | .sli _ _ false _=>zbJ T (s.freeze [k]).rw s.ev t (.own k ver) lo hi mx (K [k])
  | _=>zbJ T s.rw s.ev t (.own k ver) lo hi mx (K []))
 | x=>zbJ T s.rw s.ev t x lo hi mx (K [])
theorem zrQ [zae] (t:TypeId) (x:Operand) (lo hi mx:Option Operand):opK P T s ⟨dst,.slice t x lo hi mx,ty,pos,af,g⟩ K = zKm T s t (s.ev x) lo hi mx (kk fun fz p=>K ((s.freeze fz).put dst p)):=by
 have e:s.freeze [] = s:=St.freeze_nil s
 have h:∀ q,s.ev x = q->(match q with
  | .own k _=>(match (s.rw k).kind with
   | .sli _ _ false _=>zkl T (s.freeze [k]).rw s.ev (.slice t x lo hi mx) fun p=>K ((s.freeze [k]).put dst p)
   | _=>zkl T s.rw s.ev (.slice t x lo hi mx) fun p=>K (s.put dst p))
  | _=>zkl T s.rw s.ev (.slice t x lo hi mx) fun p=>K (s.put dst p)) = zKm T s t q lo hi mx fun fz p=>K ((s.freeze fz).put dst p):=by
  intro q hq
  unfold zKm
  cases q <;> simp only [zkl,hq,e]
 exact h _ rfl
end
def zKn (s:St) (l:List (Nat × Operand)):List (Nat × PV):=l.map fun x=>(x.1,s.ev x.2)
theorem zwz:zKn s [] = []:=(rfl)
theorem zrR (n:Nat) (x:Operand) (l:List (Nat × Operand)):zKn s ((n,x) :: l) = (n,s.ev x) :: zKn s l:=(rfl)
def zic (T:Tab):List (Nat × TypeId)->Prop | []=>True | x :: fs=>0 < (T x.2).size/\zic T fs
theorem zol:zic T [] = True:=(rfl)
theorem zlx (o:Nat) (t:TypeId) (fs:List (Nat × TypeId)):zic T ((o,t) :: fs) = (0 < (T t).size/\zic T fs):=(rfl)
theorem zBb:∀ fs:List (Nat × TypeId),(∀ x ∈ fs,0 < (T x.2).size) = zic T fs:=by
 intro fs
 induction fs with
 | nil=>simp [zic]
 | cons x fs ih=>rw [zic,<- ih];simp
def zL3 (T:Tab) (rw:Nat->Row) (kd:TK) (z:Nat) (zs:List Value) (pp:List (Nat × PV)) (K:PV->Prop):Prop :=
 0 < z/\match kd with
 | .struct fs=>zic T fs/\zdF T rw fs pp (zs.map PV.v) fun c=>K (.ag c)
 | _=>False
theorem zG5 [zae] (t:TypeId) (parts:List (Nat × Operand)) (Kp:PV->Prop):zhs T s.rw s.ev t ⟨parts⟩ Kp = zL3 T s.rw (T t).k (T t).size (T t).zero (zKn s parts) (kk Kp):=by
 unfold zhs zL3 kk
 cases (T t).k <;> first | rfl | skip
 simp only [zBb]
 rfl
theorem zly (rw:Nat->Row) (fs:List (Nat × TypeId)) (z:Nat) (zs:List Value) (pp:List (Nat × PV)) (Kp:PV->Prop) :
 zL3 T rw (.struct fs) z zs pp (kk Kp) = (0 < z/\zic T fs/\zdF T rw fs pp (zs.map PV.v) (kk fun c=>Kp (.ag c))):=(rfl)
theorem zrS (rw:Nat->Row) (fs:List (Nat × TypeId)) (c:List PV) (Kc:List PV->Prop):zdF T rw fs [] c (kk Kc) = Kc c:=(rfl)
def zNx (T:Tab) (rw:Nat->Row) (fs:List (Nat × TypeId)) (x:Option (Nat × TypeId)) (p:PV) (rest:List (Nat × PV)) (cells:List PV) (Kc:List PV->Prop):Prop :=
 match x with
 | some (off,ft)=>za5 rw p fun c=>c.length = (T ft).size/\off + c.length <= cells.length/\zdF T rw fs rest (spl cells off c) Kc
 | none=>False
theorem zom (rw:Nat->Row) (fs:List (Nat × TypeId)) (i:Nat) (p:PV) (rest:List (Nat × PV)) (c:List PV) (Kc:List PV->Prop):zdF T rw fs ((i,p) :: rest) c (kk Kc) = zNx T rw fs fs[i]? p rest c (kk Kc):=by
 unfold zNx kk
 rw [zdF]
 cases fs[i]? <;> rfl
theorem zrT (rw:Nat->Row) (fs:List (Nat × TypeId)) (off:Nat) (ft:TypeId) (p:PV) (rest:List (Nat × PV)) (cells:List PV) (Kc:List PV->Prop) :
 zNx T rw fs (some (off,ft)) p rest cells (kk Kc) = za5 rw p (kk fun c=>c.length = (T ft).size/\off + c.length <= cells.length/\zdF T rw fs rest (spl cells off c) (kk Kc)):=(rfl)
section
variable {dst:Option Nat} {ty:TypeId} {pos:String} {af:Array Edge} {g:Option (Nat × Bool)}
theorem zrU [zae] (t:TypeId) (parts:List (Nat × Operand)):opK P T s ⟨dst,.build t ⟨parts⟩,ty,pos,af,g⟩ K = zL3 T s.rw (T t).k (T t).size (T t).zero (zKn s parts) (kk fun p=>K (s.put dst p)):=by
 rw [<- zG5];rfl
def ncD (rw:Nat->Row) (kd:TK) (z:Nat) (x:PV) (Kb:Bool->Prop):Prop:=0 < z/\match kd with | .sli _=>slK rw x fun _ _ c=>Kb false/\(c = []->Kb true) | _=>False
theorem zlz [zae] (t t2:TypeId) (x:Operand):zew P T s ⟨dst,.binOp .eql t x (.const (.slice none 0 0)) t2,ty,pos,af,g⟩ K = ncD s.rw (T t).k (T t).size (s.ev x) (kk fun b=>K (s.put dst (.v (.bool b)))):=(rfl)
theorem zlA [zae] (t t2:TypeId) (x:Operand):zew P T s ⟨dst,.binOp .neq t x (.const (.slice none 0 0)) t2,ty,pos,af,g⟩ K = ncD s.rw (T t).k (T t).size (s.ev x) (kk fun b=>K (s.put dst (.v (.bool !b)))):=(rfl)
theorem zG6 (rw:Nat->Row) (e z z':Nat) (fr:Bool) (c:List PV) (Kb:Bool->Prop):ncD rw (.sli e) z (.sl fr z' c) (kk Kb) = (0 < z/\Kb false/\(c = []->Kb true)):=(rfl)
def zyC (r:Row) (ver:Nat) (Kb:Bool->Prop):Prop:=r.ver = ver/\match r.kind with | .nil=>Kb false/\Kb true | .sli _ _ _ c=>Kb false/\(c = []->Kb true) | _=>False
theorem zBc (rw:Nat->Row) (e z j v:Nat) (Kb:Bool->Prop):ncD rw (.sli e) z (.own j v) (kk Kb) = (0 < z/\zyC (rw j) v (kk Kb)):=by
 unfold ncD zyC kk slK
 dsimp only
 cases (rw j).kind <;> simp
theorem zrV (ver e sz:Nat) (fz:Bool) (c:List PV) (Kb:Bool->Prop):zyC ⟨ver,.sli e sz fz c⟩ ver (kk Kb) = (Kb false/\(c = []->Kb true)):=by simp [zyC,kk]
theorem zrW (ver:Nat) (Kb:Bool->Prop):zyC ⟨ver,.nil⟩ ver (kk Kb) = (Kb false/\Kb true):=by simp [zyC,kk]
theorem zwA [zae] (x:Operand):zew P T s ⟨dst,.move x,ty,pos,af,g⟩ K = opK P T s ⟨dst,.move x,ty,pos,af,g⟩ K:=(rfl)
theorem zon [zae] (x:Operand):zew P T s ⟨dst,.assign x,ty,pos,af,g⟩ K = opK P T s ⟨dst,.assign x,ty,pos,af,g⟩ K:=(rfl)
theorem zwB [zae] (c x y:Operand):zew P T s ⟨dst,.pick c x y,ty,pos,af,g⟩ K = opK P T s ⟨dst,.pick c x y,ty,pos,af,g⟩ K:=(rfl)
theorem zG7 [zae] (op:UnOp) (t:TypeId) (x:Operand):zew P T s ⟨dst,.unOp op t x,ty,pos,af,g⟩ K = opK P T s ⟨dst,.unOp op t x,ty,pos,af,g⟩ K:=(rfl)
theorem zlB [zae] (a b:TypeId) (x:Operand):zew P T s ⟨dst,.convert a b x,ty,pos,af,g⟩ K = opK P T s ⟨dst,.convert a b x,ty,pos,af,g⟩ K:=(rfl)
theorem zwC [zae] (t:TypeId) (x:Operand):zew P T s ⟨dst,.load t x,ty,pos,af,g⟩ K = opK P T s ⟨dst,.load t x,ty,pos,af,g⟩ K:=(rfl)
theorem zid [zae] (t:TypeId) (x:Operand) (f:Nat):zew P T s ⟨dst,.fieldAddr t x f,ty,pos,af,g⟩ K = opK P T s ⟨dst,.fieldAddr t x f,ty,pos,af,g⟩ K:=(rfl)
theorem zrX [zae] (t:TypeId) (x:Operand) (f:Nat):zew P T s ⟨dst,.field t x f,ty,pos,af,g⟩ K = opK P T s ⟨dst,.field t x f,ty,pos,af,g⟩ K:=(rfl)
theorem zoo [zae] (t:TypeId) (x i:Operand) (ok:Bool):zew P T s ⟨dst,.lookup t x i ok,ty,pos,af,g⟩ K = opK P T s ⟨dst,.lookup t x i ok,ty,pos,af,g⟩ K:=(rfl)
theorem zlC [zae] (t:TypeId) (r:Option Operand):zew P T s ⟨dst,.makeMap t r,ty,pos,af,g⟩ K = opK P T s ⟨dst,.makeMap t r,ty,pos,af,g⟩ K:=(rfl)
theorem zie [zae] (t:TypeId) (m x y:Operand):zew P T s ⟨dst,.mapUpdate t m x y,ty,pos,af,g⟩ K = opK P T s ⟨dst,.mapUpdate t m x y,ty,pos,af,g⟩ K:=(rfl)
theorem zif [zae] (t:TypeId) (x i:Operand):zew P T s ⟨dst,.indexAddr t x i,ty,pos,af,g⟩ K = opK P T s ⟨dst,.indexAddr t x i,ty,pos,af,g⟩ K:=(rfl)
theorem zrY [zae] (t:TypeId) (x i:Operand):zew P T s ⟨dst,.index t x i,ty,pos,af,g⟩ K = opK P T s ⟨dst,.index t x i,ty,pos,af,g⟩ K:=(rfl)
theorem zlD [zae] (x:Operand) (i:Nat):zew P T s ⟨dst,.extract x i,ty,pos,af,g⟩ K = opK P T s ⟨dst,.extract x i,ty,pos,af,g⟩ K:=(rfl)
theorem zjI [zae] (x:Operand):zew P T s ⟨dst,.nilCheck x,ty,pos,af,g⟩ K = opK P T s ⟨dst,.nilCheck x,ty,pos,af,g⟩ K:=(rfl)
theorem zjJ [zae] (f:Fn) (fi caps:Array Operand):zew P T s ⟨dst,.makeFunc f fi caps,ty,pos,af,g⟩ K = opK P T s ⟨dst,.makeFunc f fi caps,ty,pos,af,g⟩ K:=(rfl)
theorem zrZ [zae] (t:TypeId):zew P T s ⟨dst,.alloc t,ty,pos,af,g⟩ K = opK P T s ⟨dst,.alloc t,ty,pos,af,g⟩ K:=(rfl)
theorem zBd [zae] (t:TypeId) (x:Operand):zew P T s ⟨dst,.box t x,ty,pos,af,g⟩ K = opK P T s ⟨dst,.box t x,ty,pos,af,g⟩ K:=(rfl)
theorem zop [zae] (t:TypeId) (n:Nat):zew P T s ⟨dst,.buildSlice t n ⟨[]⟩,ty,pos,af,g⟩ K = opK P T s ⟨dst,.buildSlice t n ⟨[]⟩,ty,pos,af,g⟩ K:=(rfl)
theorem zoq [zae] (t:TypeId) (n:Nat) (p q:Nat × Operand) (l:List (Nat × Operand)):zew P T s ⟨dst,.buildSlice t n ⟨p :: q :: l⟩,ty,pos,af,g⟩ K = opK P T s ⟨dst,.buildSlice t n ⟨p :: q :: l⟩,ty,pos,af,g⟩ K:=(rfl)
def zG8 (T:Tab) (s:St) (d:Nat) (t:TypeId) (n i:Nat) (p:PV) (Kt:St->Prop) (A:Prop):Prop :=
 match p with
 | .own k ver=>(match (s.rw k).kind with | .tab _ _=>zmh T s d t n i k ver Kt | .sli _ _ _ _=>A \/ zmh T s d t n i k ver Kt | _=>A)
 | _=>A
theorem zor [zae] (d:Nat) (t:TypeId) (n i:Nat) (x:Operand):zew P T s ⟨some d,.buildSlice t n ⟨[(i,x)]⟩,ty,pos,af,g⟩ K =
 zG8 T s d t n i (s.ev x) (kk K) (kk (opK P T s ⟨some d,.buildSlice t n ⟨[(i,x)]⟩,ty,pos,af,g⟩ K)):=by
 unfold zew zG8 kk
 dsimp only
 cases s.ev x <;> rfl
theorem zG9 (d:Nat) (t:TypeId) (n i:Nat) (x:Value) (A:Prop):zG8 T s d t n i (.v x) (kk K) (kk A) = A:=(rfl)
theorem zBe (d:Nat) (t:TypeId) (n i:Nat) (fr:Bool) (z:Nat) (c:List PV) (A:Prop):zG8 T s d t n i (.sl fr z c) (kk K) (kk A) = A:=(rfl)
theorem zBf (d:Nat) (t:TypeId) (n i:Nat) (c:List PV) (A:Prop):zG8 T s d t n i (.ag c) (kk K) (kk A) = A:=(rfl)
theorem zr0 (d:Nat) (t:TypeId) (n i:Nat) (fr:Bool) (c:List PV) (o:Nat) (A:Prop):zG8 T s d t n i (.eref fr c o) (kk K) (kk A) = A:=(rfl)
theorem zwD (d:Nat) (t:TypeId) (n i:Nat) (j v o:Nat) (A:Prop):zG8 T s d t n i (.ref j v o) (kk K) (kk A) = A:=(rfl)
def zwE (T:Tab) (r:Row) (s:St) (d:Nat) (t:TypeId) (n i k ver:Nat) (Kt:St->Prop) (A:Prop):Prop:=match r.kind with | .tab _ _=>zmh T s d t n i k ver Kt | .sli _ _ _ _=>A \/ zmh T s d t n i k ver Kt | _=>A
theorem zwF (d:Nat) (t:TypeId) (n i k ver:Nat) (A:Prop):zG8 T s d t n i (.own k ver) (kk K) (kk A) = zwE T (s.rw k) s d t n i k ver (kk K) (kk A):=(rfl)
theorem zos (d:Nat) (t:TypeId) (n i k ver v:Nat) (A:Prop):zwE T ⟨v,.nil⟩ s d t n i k ver (kk K) (kk A) = A:=(rfl)
def zi7 (T:Tab) (s:St) (d:Nat) (kd:TK) (z n i k ver:Nat) (r:Row) (K:St->Prop):Prop:=0 < z/\n = 1/\i = 0/\r.ver = ver/\r.kind.slice = true/\d ≠ k/\(match kd with
 | .sli e=>(T e).size = 1/\K ((s.row d ⟨(s.rw d).ver + 1,.tab e [.own k ver]⟩).put (some d) (.own d ((s.rw d).ver + 1)))
 | _=>False)
def orB (A B:Prop):Prop:=A \/ B
theorem zNy {A B:Prop} {u:Dm A} {v:Dm B} (h:A):orB (kk A u) (kk B v):=.inl h
theorem zot (d:Nat) (t:TypeId) (n i k ver v e z:Nat) (fz:Bool) (c:List PV) (A:Prop):zwE T ⟨v,.sli e z fz c⟩ s d t n i k ver (kk K) (kk A) = orB (kk A) (kk (zi7 T s d (T t).k (T t).size n i k ver (s.rw k) K)):=(rfl)
theorem zlE (d e k ver e' z:Nat) (fz:Bool) (c:List PV) (h:(T e).size = 1):zi7 T s d (.sli e) 1 1 0 k ver ⟨ver,.sli e' z fz c⟩ K = (d ≠ k/\K ((s.row d ⟨(s.rw d).ver + 1,.tab e [.own k ver]⟩).put (some d) (.own d ((s.rw d).ver + 1)))):=by
 simp only [zi7,h,RK.slice,Nat.one_pos,true_and]
theorem zou (d:Nat) (t:TypeId) (n i k ver v e:Nat) (c:List PV) (A:Prop):zwE T ⟨v,.tab e c⟩ s d t n i k ver (kk K) (kk A) = zi7 T s d (T t).k (T t).size n i k ver (s.rw k) K:=(rfl)
theorem zlF (d e k ver e':Nat) (c:List PV) (h:(T e).size = 1):zi7 T s d (.sli e) 1 1 0 k ver ⟨ver,.tab e' c⟩ K = (d ≠ k/\K ((s.row d ⟨(s.rw d).ver + 1,.tab e [.own k ver]⟩).put (some d) (.own d ((s.rw d).ver + 1)))):=by
 simp only [zi7,h,RK.slice,Nat.one_pos,true_and]
def zHa (T:Tab) (s:St) (d:Nat) (t t2:TypeId) (x:PV) (y:PV) (Kt:St->Prop) (A:Prop):Prop :=
 match x with
 | .own k ver=>(match (s.rw k).kind with | .tab e c=>zNf T s d t t2 k ver e c y Kt | _=>A)
 | _=>A
def zKo (T:Tab) (s:St) (d:Nat) (t t2:TypeId) (x:PV) (y:PV) (Kt:St->Prop) (A:Prop):Prop :=
 match y with
 | .v (.string b)=>zuV T s d t t2 x b Kt
 | _=>zHa T s d t t2 x y Kt A
theorem zov [zae] (d:Nat) (x y:Operand) (t t2:TypeId):zew P T s ⟨some d,.call ⟨.builtin .append,⟨[x,y]⟩,⟨[t,t2]⟩⟩,ty,pos,af,g⟩ K =
 zKo T s d t t2 (s.ev x) (s.ev y) (kk K) (kk (opK P T s ⟨some d,.call ⟨.builtin .append,⟨[x,y]⟩,⟨[t,t2]⟩⟩,ty,pos,af,g⟩ K)):=by
 unfold zew zKo zHa kk
 dsimp only
 cases s.ev y with
 | v z=>cases z <;> first | rfl | (cases s.ev x <;> rfl)
 | _=>cases s.ev x <;> rfl
theorem zwG (d:Nat) (t t2:TypeId) (x:PV) (k ver:Nat) (A:Prop):zKo T s d t t2 x (.own k ver) (kk K) (kk A) = zHa T s d t t2 x (.own k ver) (kk K) (kk A):=(rfl)
theorem zBg (d:Nat) (t t2:TypeId) (x:PV) (fr:Bool) (z:Nat) (c:List PV) (A:Prop):zKo T s d t t2 x (.sl fr z c) (kk K) (kk A) = zHa T s d t t2 x (.sl fr z c) (kk K) (kk A):=(rfl)
theorem zow (d:Nat) (t t2:TypeId) (x:PV) (a:Option Addr) (n c:Nat) (A:Prop):zKo T s d t t2 x (.v (.slice a n c)) (kk K) (kk A) = zHa T s d t t2 x (.v (.slice a n c)) (kk K) (kk A):=(rfl)
def zBh (T:Tab) (r:Row) (s:St) (d:Nat) (kd:TK) (z:Nat) (kd2:TK) (z2 k ver:Nat) (b:ByteArray) (K:St->Prop):Prop :=
 0 < z/\0 < z2/\kd2 = .str/\match kd with
 | .sli e=>(T e).size = 1/\0 < (T e).bytes/\(r.ver = ver/\(match r.kind with
  | .nil=>b.size * (T e).bytes <= 140737488355328/\K (zdG s d k (.sli e (T e).size false (zfO b)))
  | .sli e' sz' false c=>e' = e/\sz' = (T e).size/\(c.length + b.size) * (T e).bytes <= 140737488355328/\K (zdG s d k (.sli e (T e).size false (c ++ zfO b)))
  | _=>False))
 | _=>False
theorem zwH (d:Nat) (t t2:TypeId) (k ver:Nat) (b:ByteArray) (A:Prop):zKo T s d t t2 (.own k ver) (.v (.string b)) (kk K) (kk A) = zBh T (s.rw k) s d (T t).k (T t).size (T t2).k (T t2).size k ver b (kk K):=(rfl)
theorem zr1 (d k ver e:Nat) (c:List PV) (b:ByteArray) (h:(T e).size = 1) (h2:(T e).bytes = 1):zBh T ⟨ver,.sli e 1 false c⟩ s d (.sli e) 1 .str 1 k ver b (kk K) =
 (c.length + b.size <= 140737488355328/\K (zdG s d k (.sli e 1 false (c ++ zfO b)))):=by
 simp only [zBh,h,h2,Nat.one_pos,true_and,kk,Nat.mul_one]
theorem zr2 (d k ver e:Nat) (b:ByteArray) (h:(T e).size = 1) (h2:(T e).bytes = 1):zBh T ⟨ver,.nil⟩ s d (.sli e) 1 .str 1 k ver b (kk K) =
 (b.size <= 140737488355328/\K (zdG s d k (.sli e 1 false (zfO b)))):=by
 simp only [zBh,h,h2,Nat.one_pos,true_and,kk,Nat.mul_one]
theorem zHb (d:Nat) (t t2:TypeId) (x:Value) (y:PV) (A:Prop):zHa T s d t t2 (.v x) y (kk K) (kk A) = A:=(rfl)
theorem zBi (d:Nat) (t t2:TypeId) (fr:Bool) (z:Nat) (c:List PV) (y:PV) (A:Prop):zHa T s d t t2 (.sl fr z c) y (kk K) (kk A) = A:=(rfl)
def zp5 (T:Tab) (r:Row) (s:St) (d:Nat) (t t2:TypeId) (k ver:Nat) (y:PV) (Kt:St->Prop) (A:Prop):Prop:=match r.kind with | .tab e c=>zNf T s d t t2 k ver e c y Kt | _=>A
theorem zwI (d:Nat) (t t2:TypeId) (k ver:Nat) (y:PV) (A:Prop):zHa T s d t t2 (.own k ver) y (kk K) (kk A) = zp5 T (s.rw k) s d t t2 k ver y (kk K) (kk A):=(rfl)
theorem zlG (d:Nat) (t t2:TypeId) (k ver v e z:Nat) (fz:Bool) (c:List PV) (y:PV) (A:Prop):zp5 T ⟨v,.sli e z fz c⟩ s d t t2 k ver y (kk K) (kk A) = A:=(rfl)
theorem zlH (d:Nat) (t t2:TypeId) (k ver v:Nat) (y:PV) (A:Prop):zp5 T ⟨v,.nil⟩ s d t t2 k ver y (kk K) (kk A) = A:=(rfl)
def zIv (T:Tab) (s:St) (d:Nat) (kd:TK) (z k ver e:Nat) (r:Row) (c:List PV) (y:PV) (K:St->Prop):Prop :=
 0 < z/\kd = .sli e/\(T e).size = 1/\0 < (T e).bytes/\r.ver = ver/\zy0 s.rw y fun news=>(c.length + news.length) * (T e).bytes <= 140737488355328/\K (zdG s d k (.tab e (c ++ news)))
theorem zlI (d:Nat) (t:TypeId) (k ver v e:Nat) (c:List PV) (y:PV) (A:Prop):zp5 T ⟨v,.tab e c⟩ s d t t k ver y (kk K) (kk A) = zIv T s d (T t).k (T t).size k ver e (s.rw k) c y (kk K):=propext ⟨fun h=>h.2,fun h=>⟨rfl,h⟩⟩
theorem zr3 (d k ver e e':Nat) (c c':List PV) (y:PV) (h:(T e).size = 1) (h2:0 < (T e).bytes):zIv T s d (.sli e) 1 k ver e ⟨ver,.tab e' c'⟩ c y (kk K) =
 zy0 s.rw y (kk fun news=>(c.length + news.length) * (T e).bytes <= 140737488355328/\K (zdG s d k (.tab e (c ++ news)))):=by
 simp only [zIv,h,h2,Nat.one_pos,true_and,kk]
def zr4 (r:Row) (rw:Nat->Row) (v:Nat) (Kc:List PV->Prop):Prop:=r.ver = v/\(match r.kind with
 | .sli _ sz _ c=>sz = 1/\(∀ p ∈ c,isV p = true)/\Kc c
 | .tab _ c=>(∀ p ∈ c,zj1 rw p)/\Kc c
 | _=>False)
theorem zr5 (rw:Nat->Row) (j v:Nat) (Kc:List PV->Prop):zy0 rw (.own j v) (kk Kc) = zr4 (rw j) rw v (kk Kc):=(rfl)
theorem zr6 [zae] (rw:Nat->Row) (v e:Nat) (fz:Bool) (xs:List Int) (Kc:List PV->Prop):zr4 ⟨v,.sli e 1 fz (iL xs)⟩ rw v (kk Kc) = Kc (iL xs):=by
 have:=zAC xs
 simp only [zr4,this,true_and,kk]
theorem zox (rw:Nat->Row) (v e k ver:Nat) (Kc:List PV->Prop):zr4 ⟨v,.tab e [.own k ver]⟩ rw v (kk Kc) = (zj1 rw (.own k ver)/\Kc [.own k ver]):=by
 simp only [zr4,true_and,kk,List.mem_singleton,forall_eq]
theorem zr7 [zae] (t:TypeId) (parts:Array (Nat × Operand)):zew P T s ⟨dst,.build t parts,ty,pos,af,g⟩ K = opK P T s ⟨dst,.build t parts,ty,pos,af,g⟩ K:=(rfl)
theorem zr8 [zae] (t:TypeId) (ad x:Operand):zew P T s ⟨dst,.store t ad x,ty,pos,af,g⟩ K = opK P T s ⟨dst,.store t ad x,ty,pos,af,g⟩ K:=(rfl)
theorem zwJ [zae] (t:TypeId) (l c:Operand):zew P T s ⟨dst,.makeSlice t l c,ty,pos,af,g⟩ K = opK P T s ⟨dst,.makeSlice t l c,ty,pos,af,g⟩ K:=(rfl)
theorem zr9 [zae] (t:TypeId) (x:Operand) (lo hi mx:Option Operand):zew P T s ⟨dst,.slice t x lo hi mx,ty,pos,af,g⟩ K = opK P T s ⟨dst,.slice t x lo hi mx,ty,pos,af,g⟩ K:=(rfl)
theorem zlJ [zae] (op:BinOp) (t t2:TypeId) (x:Operand) (y:Nat):zew P T s ⟨dst,.binOp op t x (.tmp y) t2,ty,pos,af,g⟩ K = opK P T s ⟨dst,.binOp op t x (.tmp y) t2,ty,pos,af,g⟩ K:=by cases op <;> rfl
theorem zlK [zae] (op:BinOp) (t t2:TypeId) (x:Operand) (k:IntKind) (n:Int):zew P T s ⟨dst,.binOp op t x (.const (.int k n)) t2,ty,pos,af,g⟩ K = opK P T s ⟨dst,.binOp op t x (.const (.int k n)) t2,ty,pos,af,g⟩ K:=by cases op <;> rfl
theorem zjK [zae] (op:BinOp) (t t2:TypeId) (x:Operand) (b:Bool):zew P T s ⟨dst,.binOp op t x (.const (.bool b)) t2,ty,pos,af,g⟩ K = opK P T s ⟨dst,.binOp op t x (.const (.bool b)) t2,ty,pos,af,g⟩ K:=by cases op <;> rfl
theorem zha [zae] (op:BinOp) (t t2:TypeId) (x:Operand) (b:ByteArray):zew P T s ⟨dst,.binOp op t x (.const (.string b)) t2,ty,pos,af,g⟩ K = opK P T s ⟨dst,.binOp op t x (.const (.string b)) t2,ty,pos,af,g⟩ K:=by cases op <;> rfl
end
section
variable {dst:Option Nat} {ty:TypeId} {pos:String} {af:Array Edge} {g:Option (Nat × Bool)} {Ke:Ent->St->Prop}
theorem zBj [zae] (x:Operand):dK P T s ⟨dst,.move x,ty,pos,af,g⟩ (kk Ke) = evK (s.ev x) (kk fun p=>Ke ⟨[],.ids []⟩ (s.put dst p)):=(rfl)
theorem zsa [zae] (x:Operand):dK P T s ⟨dst,.assign x,ty,pos,af,g⟩ (kk Ke) = evK (s.ev x) (kk fun p=>Ke ⟨[],.ids []⟩ (s.put dst p)):=(rfl)
theorem zBk [zae] (c x y:Operand):dK P T s ⟨dst,.pick c x y,ty,pos,af,g⟩ (kk Ke) = zE5 (s.ev c) (kk (evK (s.ev x) (kk fun p=>Ke ⟨[],.ids []⟩ (s.put dst p)))) (kk (evK (s.ev y) (kk fun p=>Ke ⟨[],.ids []⟩ (s.put dst p)))):=(rfl)
theorem zHc [zae] (op:BinOp) (t t2:TypeId) (x y:Operand):dK P T s ⟨dst,.binOp op t x y t2,ty,pos,af,g⟩ (kk Ke) = zdw T op t (s.ev x) (s.ev y) (kk fun p=>Ke ⟨[],.ids []⟩ (s.put dst p)):=(rfl)
theorem zL4 [zae] (op:UnOp) (t:TypeId) (x:Operand):dK P T s ⟨dst,.unOp op t x,ty,pos,af,g⟩ (kk Ke) = unK op (s.ev x) (kk fun p=>Ke ⟨[],.ids []⟩ (s.put dst p)):=(rfl)
theorem zoy [zae] (a b:TypeId) (x:Operand):dK P T s ⟨dst,.convert a b x,ty,pos,af,g⟩ (kk Ke) = zdE [s.ev x] [] (kk fun l=>zg0 T s.rw a b (s.ev x) (kk fun p=>Ke ⟨l,.ids []⟩ (s.put dst p))):=(rfl)
theorem zBl [zae] (t:TypeId) (x:Operand):dK P T s ⟨dst,.load t x,ty,pos,af,g⟩ (kk Ke) = zdE [s.ev x] [] (kk fun l=>zue s.rw (s.ev x) (kk fun m c off=>ldK T t m c off (kk fun p=>Ke ⟨l,.ids []⟩ (s.put dst p)))):=(rfl)
theorem zjL [zae] (t:TypeId) (x:Operand) (f:Nat):dK P T s ⟨dst,.fieldAddr t x f,ty,pos,af,g⟩ (kk Ke) =
 zdE [s.ev x] [] (kk fun l=>zei T t f (kk fun o _=>zmu (s.ev x) = true/\zdW s.rw (s.ev x) (kk (evK (zeP (s.ev x) o) (kk fun p=>Ke ⟨l,.ids []⟩ (s.put dst p)))))):=(rfl)
theorem zwK [zae] (t:TypeId) (x:Operand) (f:Nat):dK P T s ⟨dst,.field t x f,ty,pos,af,g⟩ (kk Ke) =
 agK (s.ev x) (kk fun c=>zei T t f (kk fun o ft=>ldK T ft .asis c o (kk fun p=>Ke ⟨[],.ids []⟩ (s.put dst p)))):=zlt (P:=P) (T:=T) (s:=s) (K:=Ke ⟨[],.ids []⟩) (dst:=dst) (ty:=ty) (pos:=pos) (af:=af) (g:=g) t x f
theorem zjM [zae] (t:TypeId) (x y:Operand):dK P T s ⟨dst,.indexAddr t x y,ty,pos,af,g⟩ (kk Ke) = zdE [s.ev x,s.ev y] [] (kk fun l=>zbz T s.rw t (s.ev x) (s.ev y) (kk fun p=>Ke ⟨l,.ids []⟩ (s.put dst p))):=(rfl)
theorem zwL [zae] (t:TypeId) (x y:Operand):dK P T s ⟨dst,.index t x y,ty,pos,af,g⟩ (kk Ke) = zws T t (s.ev x) (s.ev y) (kk fun p=>Ke ⟨[],.ids []⟩ (s.put dst p)):=(rfl)
theorem zoz [zae] (x:Operand) (n:Nat):dK P T s ⟨dst,.extract x n,ty,pos,af,g⟩ (kk Ke) = zNw (s.ev x) (kk fun ps=>n < ps.length/\evK (ps.getD n .junk) (kk fun p=>Ke ⟨[],.ids []⟩ (s.put dst p))):=(rfl)
theorem zlL [zae] (f:FuncId) (caps:Array Operand):dK P T s ⟨dst,.makeFunc (.func f) #[] caps,ty,pos,af,g⟩ (kk Ke) = Ke ⟨[],.ids []⟩ (s.put dst (.clo f (caps.toList.map s.ev))):=by
 show (#[] = (#[]:Array Operand)/\Ke ⟨[],.ids []⟩ (s.put dst (.clo f (caps.toList.map s.ev)))) = _
 simp
theorem zlM [zae] (x:Operand):dK P T s ⟨dst,.nilCheck x,ty,pos,af,g⟩ (kk Ke) = zdE [s.ev x] [] (kk fun l=>zdW s.rw (s.ev x) (kk (evK (s.ev x) (kk fun p=>Ke ⟨l,.ids []⟩ (s.put dst p))))):=(rfl)
theorem zHd [zae] (x:Operand) (t:TypeId):dK P T s ⟨dst,.call ⟨.builtin .len,#[x],#[t]⟩,ty,pos,af,g⟩ (kk Ke) = zdE [s.ev x] [] (kk fun l=>zCZ T s.rw t (s.ev x) (kk fun p=>Ke ⟨l,.ids []⟩ (s.put dst p))):=(rfl)
theorem zHe [zae] (x y:Operand) (ts:Array TypeId):dK P T s ⟨dst,.call ⟨.builtin .max,#[x,y],ts⟩,ty,pos,af,g⟩ (kk Ke) = zdE [s.ev x,s.ev y] [] (kk fun l=>zc9 true (s.ev x) (s.ev y) (kk fun p=>Ke ⟨l,.ids []⟩ (s.put dst p))):=(rfl)
theorem zHf [zae] (x y:Operand) (ts:Array TypeId):dK P T s ⟨dst,.call ⟨.builtin .min,#[x,y],ts⟩,ty,pos,af,g⟩ (kk Ke) = zdE [s.ev x,s.ev y] [] (kk fun l=>zc9 false (s.ev x) (s.ev y) (kk fun p=>Ke ⟨l,.ids []⟩ (s.put dst p))):=(rfl)
theorem zsb [zae] (t:TypeId) (x:Operand) (mx:Option Operand):dK P T s ⟨dst,.slice t x none none mx,ty,pos,af,g⟩ (kk Ke) = zdE (s.ev x :: (mx.toList).map s.ev) [] (kk fun l=>zbJ T s.rw s.ev t (s.ev x) none none mx (kk fun p=>Ke ⟨l,.ids []⟩ (s.put dst p))):=by
 cases mx <;> rfl
theorem zsc [zae] (t:TypeId) (x lo:Operand):dK P T s ⟨dst,.slice t x (some lo) none none,ty,pos,af,g⟩ (kk Ke) = zdE [s.ev x,s.ev lo] [] (kk fun l=>zbJ T s.rw s.ev t (s.ev x) (some lo) none none (kk fun p=>Ke ⟨l,.ids []⟩ (s.put dst p))):=(rfl)
def zsd (T:Tab) (s:St) (dst:Option Nat) (t:TypeId) (x hi:Operand) (r:Row) (k ver:Nat) (py:PV) (Ke:Ent->St->Prop):Prop :=
 match r.kind with
 | .sli _ _ false _=>zPf T s dst t r k ver py Ke
 | _=>zdE [.own k ver,py] [] (kk fun l=>zbJ T s.rw s.ev t (.own k ver) none (some hi) none (kk fun p=>Ke ⟨l,.ids []⟩ (s.put dst p)))
def zL5 (T:Tab) (s:St) (dst:Option Nat) (t:TypeId) (x hi:Operand) (px py:PV) (Ke:Ent->St->Prop):Prop :=
 match px with
 | .own k ver=>zsd T s dst t x hi (s.rw k) k ver py Ke
 | _=>zdE [px,py] [] (kk fun l=>zbJ T s.rw s.ev t px none (some hi) none (kk fun p=>Ke ⟨l,.ids []⟩ (s.put dst p)))
theorem zwM (t:TypeId) (x hi:Operand) (k ver:Nat) (py:PV):zL5 T s dst t x hi (.own k ver) py (kk Ke) = zsd T s dst t x hi (s.rw k) k ver py (kk Ke):=(rfl)
theorem zBm (t:TypeId) (x hi:Operand) (fr:Bool) (z:Nat) (c:List PV) (py:PV):zL5 T s dst t x hi (.sl fr z c) py (kk Ke) = zdE [.sl fr z c,py] [] (kk fun l=>zbJ T s.rw s.ev t (.sl fr z c) none (some hi) none (kk fun p=>Ke ⟨l,.ids []⟩ (s.put dst p))):=(rfl)
theorem zHg (t:TypeId) (x hi:Operand) (v:Value) (py:PV):zL5 T s dst t x hi (.v v) py (kk Ke) = zdE [.v v,py] [] (kk fun l=>zbJ T s.rw s.ev t (.v v) none (some hi) none (kk fun p=>Ke ⟨l,.ids []⟩ (s.put dst p))):=(rfl)
theorem zse (t:TypeId) (x hi:Operand) (v e z:Nat) (c:List PV) (k ver:Nat) (py:PV):zsd T s dst t x hi ⟨v,.sli e z true c⟩ k ver py (kk Ke) = zdE [.own k ver,py] [] (kk fun l=>zbJ T s.rw s.ev t (.own k ver) none (some hi) none (kk fun p=>Ke ⟨l,.ids []⟩ (s.put dst p))):=(rfl)
def zNz (T:Tab) (t e:TypeId):Prop:=0 < (T t).size/\(T t).k = .sli e/\0 < (T e).size/\(T e).size = 1
theorem zlN (t:TypeId) (x hi:Operand) (v e:Nat) (c:List PV) (k ver d:Nat) (kd:IntKind) (m:Int):zsd T s (some d) t x hi ⟨v,.sli e 1 false c⟩ k ver (.v (.int kd m)) (kk Ke) =
 (v = ver/\zNz T t e/\0 <= m/\m <= (c.length:Int)/\Ke ⟨[],.ids [k]⟩ ((s.row k ⟨ver + 1,.sli e 1 false (c.take m.toNat)⟩).put (some d) (.own k (ver + 1)))):=by
 refine propext ⟨fun h=>?_,fun ⟨h1,⟨h2,h3,h4,h5⟩,h6,h7,h8⟩=>⟨d,e,c,kd,m,rfl,by rw [h1],h2,h3,h4,h5,rfl,h6,h7,h8⟩⟩
 obtain ⟨d',e',c',kd',m',g1,g2,g3,g4,g5,g6,g7,g8,g9,g10⟩:=h
 cases g1;cases g2;cases g7
 exact ⟨rfl,⟨g3,g4,g5,g6⟩,g8,g9,g10⟩
theorem zsf [zae] (t:TypeId) (x hi:Operand):dK P T s ⟨dst,.slice t x none (some hi) none,ty,pos,af,g⟩ (kk Ke) = zL5 T s dst t x hi (s.ev x) (s.ev hi) (kk Ke):=by
 have hr:(zfM T s.rw s.ev (.slice t x none (some hi) none) fun p=>Ke ⟨zqf s ⟨dst,.slice t x none (some hi) none,ty,pos,af,g⟩,.ids []⟩ (s.put dst p)) = zdE [s.ev x,s.ev hi] [] (kk fun l=>zbJ T s.rw s.ev t (s.ev x) none (some hi) none (kk fun p=>Ke ⟨l,.ids []⟩ (s.put dst p))):=(rfl)
 show zNe T s ⟨dst,.slice t x none (some hi) none,ty,pos,af,g⟩ t (s.ev x) (s.ev hi) (kk Ke) = _
 cases hx:s.ev x with
 | own k ver =>
   rw [hx] at hr
   unfold zNe zL5 zsd
   dsimp only
   generalize s.rw k = r
   cases r with
   | mk v kd =>
     cases kd with
     | sli e z fz c=>cases fz with
       | false=>rfl
       | true=>exact hr
     | _=>exact hr
 | _=>rw [hx] at hr;exact hr
theorem zsg [zae] (t:TypeId) (x lo hi:Operand):dK P T s ⟨dst,.slice t x (some lo) (some hi) none,ty,pos,af,g⟩ (kk Ke) = zdE [s.ev x,s.ev lo,s.ev hi] [] (kk fun l=>zbJ T s.rw s.ev t (s.ev x) (some lo) (some hi) none (kk fun p=>Ke ⟨l,.ids []⟩ (s.put dst p))):=(rfl)
theorem zwN [zae] (t:TypeId) (parts:List (Nat × Operand)):dK P T s ⟨dst,.build t ⟨parts⟩,ty,pos,af,g⟩ (kk Ke) = zdE (evs s parts) [] (kk fun l=>zL3 T s.rw (T t).k (T t).size (T t).zero (zKn s parts) (kk fun p=>Ke ⟨l,.ids []⟩ (s.put dst p))):=by
 have e:((Op.build t ⟨parts⟩).operands.toList.map s.ev).flatMap ze3 = (evs s parts).flatMap ze3:=by
  simp [Op.operands,evs]
  rfl
 show zfM T s.rw s.ev (.build t ⟨parts⟩) (fun p=>Ke ⟨((Op.build t ⟨parts⟩).operands.toList.map s.ev).flatMap ze3,.ids []⟩ (s.put dst p)) = _
 rw [e]
 exact (zG5 (T:=T) (s:=s) t parts (fun p=>Ke ⟨(evs s parts).flatMap ze3,.ids []⟩ (s.put dst p)))
def zED [zae] (P:Program) (f:FuncId) (raw:List PV) (d:Nat) (s:St) (Ke:Ent->St->Prop):Prop:=zMk P s f raw d (fun rd k s1=>Ke ⟨rd,.ids [d,k]⟩ s1)
theorem zIw [zae] {f:FuncId} {args raw lent:List PV} {k v e e2 d:Nat} {p:List Nat} {rows rows':List (List PV)} {r:RV} {Ka:RV->Prop} {us:Dm s} {u:Dm Ke} (h:AT P f args e e2 rows rows' (.rv r))
 (hg:GiveL [(k,v)] raw args) (ht:TabIs s.rw k v e e2 p rows) (hn:p.Nodup) (hd:d % 1000 ≠ k % 1000) (hk:Ke ⟨[],.ids [d,k]⟩ (zal (s.killed k p) d r)):zf0 P f lent Ka (zED P f raw d (kk s us) (kk Ke u)) :=
 .inr (.inl ⟨k,v,e,e2,p,rows,rows',args,r,h,hg,ht,hn,hd,hk⟩)
theorem zwO [zae] {f:FuncId} {pre pre' raw head out lent:List PV} {e j vj d:Nat} {ok:Bool} {Ka:RV->Prop} {us:Dm s} {u:Dm Ke} (h:AF P f pre head e out ok) (hq:zID pre pre') (hraw:raw = pre' ++ [.own j vj]) (hj:s.rw j = ⟨vj,.sli e 1 false head⟩) (hp:zbs head) (hd:d % 1000 ≠ j % 1000) (hjl:j < 1000000)
 (hk:Ke ⟨[],.ids [d,j]⟩ (((s.row j ⟨vj + 1,.dead⟩).row d ⟨(s.rw d).ver + 1,.sli e 1 false out⟩).put (some d) (.tup [.own d ((s.rw d).ver + 1),.v (.bool ok)]))):zf0 P f lent Ka (zED P f raw d (kk s us) (kk Ke u)):=by
 have hrd:((s.row j ⟨(s.rw j).ver + 1,.dead⟩).rw d) = s.rw d:=zam _ _ fun h=>hd (by rw [h])
 have hk2:Ke ⟨[],.ids [d,j]⟩ (zal (s.killed j []) d (rvF e out ok)):=by
  rw [zHG,zo6,hrd,hj];exact hk
 exact .inr (.inr (.inl ⟨j,vj,e,pre,pre',head,out,ok,h,hq,hraw,hj,hp,hd,hjl,hk2⟩))
theorem zE8 [zae] {f:FuncId} {raw lent:List PV} {k d:Nat} {x:RV} {r:Row} {Ka:RV->Prop} {us:Dm s} {u:Dm Ke} (rd:List Nat) (h:∀ s':St,s'.rw k = s.rw k->(∀ a ∈ rd,s'.rw a = s.rw a)->∀ K':St->Prop,K' (zal (s'.row k r) d x)->askG P s' f raw (some d) K') (hd:d % 1000 ≠ k % 1000)
 (hk:Ke ⟨rd,.ids [d,k]⟩ (zal (s.row k r) d x)):zf0 P f lent Ka (zED P f raw d (kk s us) (kk Ke u)):=.inr (.inr (.inr ⟨rd,k,x,r,none,h,hd,hk⟩))
theorem zwP [zae] {f:FuncId} {raw lent:List PV} {k d:Nat} {p:PV} {r:Row} {Ka:RV->Prop} {us:Dm s} {u:Dm Ke} (h:∀ s':St,s'.rw k = s.rw k->∀ K':St->Prop,K' ((s'.row k r).put (some d) p)->askG P s' f raw (some d) K') (hd:d % 1000 ≠ k % 1000)
 (hk:Ke ⟨[],.ids [d,k]⟩ ((s.row k r).put (some d) p)):zf0 P f lent Ka (zED P f raw d (kk s us) (kk Ke u)):=.inr (.inr (.inr ⟨[],k,.im .junk,r,some p,fun s' hs _=>h s' hs,hd,hk⟩))
theorem zBn [zae] (d:Nat) (f:Operand) (args:List Operand) (ts:Array TypeId):dK P T s ⟨some d,.call ⟨.value f,⟨args⟩,ts⟩,ty,pos,af,g⟩ (kk Ke) =
 zfL s.rw 3 (zA6 s args) [] (kk fun l=>zfL s.rw 4 [s.ev f] l (kk fun l'=>zEC (s.ev f) (kk fun g caps=>zf0 P g (zi6 s args ++ caps.map (zcS s.rw 3)) (kk fun rv=>Ke ⟨l',.res d⟩ (zal s d rv)) (zED P g (zA6 s args ++ caps) d (kk s) (kk Ke))))):=by
 simp only [zfL,zE4,List.nil_append,List.flatMap_cons,List.flatMap_nil,List.append_nil]
 show (ze8 P s.rw s.ev f ⟨args⟩ (fun rv=>Ke ⟨(zA6 s args).flatMap (zeM s.rw 3) ++ zeM s.rw 4 (s.ev f),.res d⟩ (zal s d rv)) \/ tdK P s f ⟨.value f,⟨args⟩,ts⟩ d Ke) = _
 unfold ze8 tdK zEC zf0 zED kk
 cases s.ev f <;> first | rfl | (simp;done) | skip
theorem zjN [zae] (f:Operand) (args:List Operand) (ts:Array TypeId):dK P T s ⟨none,.call ⟨.value f,⟨args⟩,ts⟩,ty,pos,af,g⟩ (kk Ke) =
 zfL s.rw 3 (zA6 s args) [] (kk fun l=>zfL s.rw 4 [s.ev f] l (kk fun l'=>zEC (s.ev f) (kk fun g caps=>zf0 P g (zi6 s args ++ caps.map (zcS s.rw 3)) (kk fun rv=>Ke ⟨l',.ids []⟩ s) False))):=by
 have e:=zE7 (P:=P) (s:=s) f args (fun rv=>Ke ⟨(zA6 s args).flatMap (zeM s.rw 3) ++ zeM s.rw 4 (s.ev f),.ids []⟩ s)
 simp only [zfL,zE4,List.nil_append,List.flatMap_cons,List.flatMap_nil,List.append_nil]
 exact e
theorem zsh [zae] (d:Nat) (x y:Operand) (t t2:TypeId):dK P T s ⟨some d,.call ⟨.builtin .append,#[x,y],#[t,t2]⟩,ty,pos,af,g⟩ (kk Ke) =
 zdE [s.ev y] [] (kk fun l=>zdE [s.ev x] [d] (kk fun l'=>opK P T s ⟨some d,.call ⟨.builtin .append,#[x,y],#[t,t2]⟩,ty,pos,af,g⟩ (Ke ⟨l,.ids l'⟩))):=by
 have e:∀ p:PV,[p].flatMap ze3 = ze3 p:=fun p=>sp
 unfold zdE
 simp only [kk,e,List.nil_append]
 rfl
theorem zwQ [zae] (d:Nat) (t:TypeId):dK P T s ⟨some d,.alloc t,ty,pos,af,g⟩ (kk Ke) = opK P T s ⟨some d,.alloc t,ty,pos,af,g⟩ (Ke ⟨[],.ids [d]⟩):=(rfl)
theorem zHh [zae] (d:Nat) (t:TypeId) (x:Operand):dK P T s ⟨some d,.box t x,ty,pos,af,g⟩ (kk Ke) = zdE [s.ev x] [] (kk fun l=>opK P T s ⟨some d,.box t x,ty,pos,af,g⟩ (Ke ⟨l,.ids [d]⟩)):=by
 have e:∀ p:PV,[p].flatMap ze3 = ze3 p:=fun p=>sp
 unfold zdE
 simp only [kk,e,List.nil_append]
 rfl
theorem zig [zae] (d:Nat) (t:TypeId) (n:Nat) (parts:List (Nat × Operand)):dK P T s ⟨some d,.buildSlice t n ⟨parts⟩,ty,pos,af,g⟩ (kk Ke) = zdE (evs s parts) [d] (kk fun l=>opK P T s ⟨some d,.buildSlice t n ⟨parts⟩,ty,pos,af,g⟩ (Ke ⟨[],.ids l⟩)):=(rfl)
theorem zwR [zae] (t:TypeId) (ad x:Operand):dK P T s ⟨dst,.store t ad x,ty,pos,af,g⟩ (kk Ke) = zdE [s.ev ad,s.ev x] [] (kk fun l=>opK P T s ⟨dst,.store t ad x,ty,pos,af,g⟩ (Ke ⟨[],.ids l⟩)):=by
 have e:[s.ev ad,s.ev x].flatMap ze3 = ze3 (s.ev ad) ++ ze3 (s.ev x):=sp
 unfold zdE
 simp only [kk,e,List.nil_append]
 rfl
theorem zBo [zae] (d:Nat) (t:TypeId) (l c:Operand):dK P T s ⟨some d,.makeSlice t l c,ty,pos,af,g⟩ (kk Ke) = opK P T s ⟨some d,.makeSlice t l c,ty,pos,af,g⟩ (Ke ⟨[],.ids [d]⟩):=(rfl)
end
def TK.isInt:TK->Bool | .int _=>true | _=>false
theorem zBp (k:IntKind):TK.isInt (.int k) = true:=(rfl)
theorem zBq (k:IntKind):TK.agg (.int k) = false:=(rfl)
theorem zwS:TK.isInt (.bool) = false:=(rfl)
theorem zwT:TK.agg (.bool) = false:=(rfl)
theorem zBr:TK.isInt (.str) = false:=(rfl)
theorem zBs:TK.agg (.str) = false:=(rfl)
theorem zBt (e:TypeId):TK.isInt (.sli e) = false:=(rfl)
theorem zBu (e:TypeId):TK.agg (.sli e) = false:=(rfl)
theorem zoA (f:List (Nat × TypeId)):TK.isInt (.struct f) = false:=(rfl)
theorem zoB (f:List (Nat × TypeId)):TK.agg (.struct f) = true:=(rfl)
theorem zBv (n:Nat) (e:TypeId):TK.isInt (.arr n e) = false:=(rfl)
theorem zBw (n:Nat) (e:TypeId):TK.agg (.arr n e) = true:=(rfl)
theorem zBx (k e:TypeId):TK.isInt (.map k e) = false:=(rfl)
theorem zBy (k e:TypeId):TK.agg (.map k e) = false:=(rfl)
theorem zsi:TK.isInt (.other) = false:=(rfl)
theorem zsj:TK.agg (.other) = false:=(rfl)
theorem zwU (l:List Oper):l.toArray.toList = l:=(rfl)
section
variable {Kp:PV->Prop} {rw:Nat->Row}
section
variable (t:TypeId) (k:IntKind) (a b:Int)
theorem zBz:zdw T .add t (.v (.int k a)) (.v (.int k b)) Kp = Kp (.v (.int k (k.wrap (a + b)))):=by simp [zdw,zbK,zcs]
theorem zBA:zdw T .sub t (.v (.int k a)) (.v (.int k b)) Kp = Kp (.v (.int k (k.wrap (a - b)))):=by simp [zdw,zbK,zcs]
theorem zBB:zdw T .mul t (.v (.int k a)) (.v (.int k b)) Kp = Kp (.v (.int k (k.wrap (a * b)))):=by simp [zdw,zbK,zcs]
theorem zBC:zdw T .quo t (.v (.int k a)) (.v (.int k b)) Kp = (b ≠ 0/\Kp (.v (.int k (k.wrap (a.tdiv b))))):=by simp [zdw,zbK,zcs]
theorem zBD:zdw T .rem t (.v (.int k a)) (.v (.int k b)) Kp = (b ≠ 0/\Kp (.v (.int k (a.tmod b)))):=by simp [zdw,zbK,zcs]
theorem zBE:zdw T .and t (.v (.int k a)) (.v (.int k b)) Kp = Kp (.v (.int k (zdQ k a b))):=by simp [zdw,zbK,zcs]
theorem zHi:zdw T .or t (.v (.int k a)) (.v (.int k b)) Kp = Kp (.v (.int k (ior k a b))):=by simp [zdw,zbK,zcs]
theorem zBF:zdw T .xor t (.v (.int k a)) (.v (.int k b)) Kp = Kp (.v (.int k (zIP k a b))):=by simp [zdw,zbK,zcs]
theorem zoC:zdw T .andNot t (.v (.int k a)) (.v (.int k b)) Kp = Kp (.v (.int k (zb8 k a b))):=by simp [zdw,zbK,zcs]
theorem zBG (k':IntKind):zdw T .shl t (.v (.int k a)) (.v (.int k' b)) Kp = (0 <= b/\Kp (.v (.int k (zg1 k a b)))):=by simp [zdw,zbK,zcs]
theorem zBH (k':IntKind):zdw T .shr t (.v (.int k a)) (.v (.int k' b)) Kp = (0 <= b/\Kp (.v (.int k (zpk k a b)))):=by simp [zdw,zbK,zcs]
theorem zBI:zdw T .eql t (.v (.int k a)) (.v (.int k b)) Kp = Kp (.v (.bool (a == b))):=by simp [zdw,zbK,zcs]
theorem zBJ:zdw T .neq t (.v (.int k a)) (.v (.int k b)) Kp = Kp (.v (.bool (a != b))):=by simp [zdw,zbK,zcs]
theorem zBK:zdw T .lss t (.v (.int k a)) (.v (.int k b)) Kp = Kp (.v (.bool (decide (a < b)))):=by simp [zdw,zbK,zcs]
theorem zBL:zdw T .leq t (.v (.int k a)) (.v (.int k b)) Kp = Kp (.v (.bool (decide (a <= b)))):=by simp [zdw,zbK,zcs]
theorem zBM:zdw T .gtr t (.v (.int k a)) (.v (.int k b)) Kp = Kp (.v (.bool (decide (b < a)))):=by simp [zdw,zbK,zcs]
theorem zBN:zdw T .geq t (.v (.int k a)) (.v (.int k b)) Kp = Kp (.v (.bool (decide (b <= a)))):=by simp [zdw,zbK,zcs]
end
theorem zlO (t:TypeId) (a b:ByteArray):zdw T .eql t (.v (.string a)) (.v (.string b)) Kp = Kp (.v (.bool (a.toList == b.toList))):=by simp [zdw,zpl]
theorem zlP (t:TypeId) (a b:ByteArray):zdw T .neq t (.v (.string a)) (.v (.string b)) Kp = Kp (.v (.bool (!(a.toList == b.toList)))):=by simp [zdw,zpl]
theorem zlQ (t:TypeId) (a b:ByteArray):zdw T .add t (.v (.string a)) (.v (.string b)) Kp = (a.size + b.size <= 9223372036854775807/\Kp (.v (.string (a ++ b)))):=by simp [zdw,zpl]
theorem zjO (t:TypeId) (a b:Bool):zdw T .eql t (.v (.bool a)) (.v (.bool b)) Kp = ((T t).k = .bool/\0 < (T t).size/\Kp (.v (.bool (a == b)))):=by simp [zdw]
theorem zjP (t:TypeId) (a b:Bool):zdw T .neq t (.v (.bool a)) (.v (.bool b)) Kp = ((T t).k = .bool/\0 < (T t).size/\Kp (.v (.bool (!(a == b))))):=by simp [zdw]
theorem zHj (b:Bool):unK .not (.v (.bool b)) Kp = Kp (.v (.bool !b)):=(rfl)
theorem zHk (k:IntKind) (n:Int):unK .neg (.v (.int k n)) Kp = Kp (.v (.int k (k.wrap (0 - n)))):=(rfl)
theorem zwV (fr:Bool) (c:List PV) (off:Nat) (Km:Md->List PV->Nat->Prop):zue rw (.eref fr c off) Km = Km (.set fr) c off:=(rfl)
def zlR (r:Row) (ver off:Nat) (Km:Md->List PV->Nat->Prop):Prop:=r.ver = ver/\match r.kind with | .box _ c=>Km .asis c off | .sli _ _ _ c=>Km (.set true) c off | .tab _ c=>Km .asis c off | _=>False
theorem zBO (j ver off:Nat) (Km:Md->List PV->Nat->Prop):zue rw (.ref j ver off) Km = zlR (rw j) ver off Km:=(rfl)
theorem zoD (ver off:Nat) (bt:TypeId) (c:List PV) (Km:Md->List PV->Nat->Prop):zlR ⟨ver,.box bt c⟩ ver off Km = Km .asis c off:=by simp [zlR]
theorem zoE (ver off e:Nat) (c:List PV) (Km:Md->List PV->Nat->Prop):zlR ⟨ver,.tab e c⟩ ver off Km = Km .asis c off:=by simp [zlR]
theorem zoF (ver off e sz:Nat) (fz:Bool) (c:List PV) (Km:Md->List PV->Nat->Prop):zlR ⟨ver,.sli e sz fz c⟩ ver off Km = Km (.set true) c off:=by simp [zlR]
def zjQ (r:Row) (ver:Nat) (K:PV->Prop):Prop:=r.ver = ver/\match r.kind with | .nil=>K (.v (.int .i64 0)) | .sli _ sz _ c=>0 < sz/\K (.v (.int .i64 ((c.length / sz:Nat):Int))) | .tab _ c=>K (.v (.int .i64 (c.length:Int))) | _=>False
def zIx (rw:Nat->Row) (k:TK) (z:Nat) (x:PV) (K:PV->Prop):Prop :=
 0 < z/\match k with
 | .str=>(match x with | .v (.string s)=>K (.v (.int .i64 s.size)) | _=>False)
 | .sli _=>zzV rw x fun sz n=>0 < sz/\K (.v (.int .i64 ((n / sz:Nat):Int)))
 | .arr n _=>K (.v (.int .i64 n))
 | _=>False
theorem zHl (t:TypeId) (x:PV):zCZ T rw t x Kp = zIx rw (T t).k (T t).size x Kp:=(rfl)
theorem zBP (b:ByteArray):zIx rw .str 1 (.v (.string b)) Kp = Kp (.v (.int .i64 b.size)):=by simp [zIx]
theorem zHm (e:TypeId) (fr:Bool) (c:List PV):zIx rw (.sli e) 1 (.sl fr 1 c) Kp = Kp (.v (.int .i64 (c.length:Int))):=by simp [zIx,zzV]
theorem zBQ (e:TypeId) (j ver:Nat):zIx rw (.sli e) 1 (.own j ver) Kp = zjQ (rw j) ver Kp:=by
 simp only [zIx,zzV,zjQ,true_and,Nat.one_pos]
 cases (rw j).kind <;> simp
theorem zoG (ver e:Nat) (fz:Bool) (c:List PV):zjQ ⟨ver,.sli e 1 fz c⟩ ver Kp = Kp (.v (.int .i64 (c.length:Int))):=by simp [zjQ]
theorem zoH (ver e:Nat) (c:List PV):zjQ ⟨ver,.tab e c⟩ ver Kp = Kp (.v (.int .i64 (c.length:Int))):=by simp [zjQ]
theorem zoI (ver:Nat):zjQ ⟨ver,.nil⟩ ver Kp = Kp (.v (.int .i64 0)):=by simp [zjQ]
def zuu (T:Tab) (t:TypeId) (r:Row) (ver:Nat) (a:Int) (K:PV->Prop):Prop:=r.ver = ver/\match r.kind with | .mp f=>zHJ T t/\K (.v (.int .i64 (f a))) | _=>False
theorem zwW (t:TypeId) (j ver:Nat) (a:Int):zkk T rw t (.own j ver) (.v (.int .u64 a)) Kp = zuu T t (rw j) ver a Kp:=(rfl)
theorem zoJ (t:TypeId) (ver:Nat) (f:Int->Int) (a:Int):zuu T t ⟨ver,.mp f⟩ ver a Kp = (zHJ T t/\Kp (.v (.int .i64 (f a)))):=by simp [zuu]
def zBR (T:Tab) (t:TypeId) (r:Row) (ver:Nat) (K:(Int->Int)->Prop):Prop:=r.ver = ver/\match r.kind with | .mp f=>zHJ T t/\K f | _=>False
theorem zBS {s:St} {K:St->Prop} (t:TypeId) (j ver:Nat) (a v:Int):zKq T s t (.own j ver) (.v (.int .u64 a)) (.v (.int .i64 v)) (kk K) = zBR T t (s.rw j) ver (kk fun f=>K (s.row j ⟨ver,.mp (ztv f a v)⟩)):=(rfl)
theorem zsk (t:TypeId) (ver:Nat) (f:Int->Int) (K:(Int->Int)->Prop):zBR T t ⟨ver,.mp f⟩ ver (kk K) = (zHJ T t/\K f):=by simp [zBR,kk]
def iaD (T:Tab) (rw:Nat->Row) (kd:TK) (z:Nat) (x i:PV) (K:PV->Prop):Prop :=
 match i with
 | .v (.int _ n) =>
   0 < z/\match kd with
   | .sli e =>
     (match x with
     | .sl fr sz c=>0 < (T e).size/\sz = (T e).size/\0 <= n/\n.toNat * sz < c.length/\K (.eref fr c (n.toNat * sz))
     | .own k ver=>(rw k).ver = ver/\match (rw k).kind with | .sli _ sz _ c=>0 < (T e).size/\sz = (T e).size/\0 <= n/\n.toNat * sz < c.length/\K (.ref k ver (n.toNat * sz)) | .tab _ c=>(T e).size = 1/\0 <= n/\n.toNat < c.length/\K (.ref k ver n.toNat) | _=>False
     | _=>False)
   | .arr len e=>zmu x = true/\0 < (T e).size/\0 <= n/\n < len/\zdW rw x (K (zeP x (n.toNat * (T e).size)))
   | _=>False
 | _=>False
theorem zL6 (t:TypeId) (x i:PV):zbz T rw t x i Kp = iaD T rw (T t).k (T t).size x i Kp:=(rfl)
theorem zL7 {e:TypeId} {k:IntKind} (fr:Bool) (c:List PV) (n:Int) (h2:(T e).size = 1) :
 iaD T rw (.sli e) 1 (.sl fr 1 c) (.v (.int k n)) Kp = (0 <= n/\n < (c.length:Int)/\Kp (.eref fr c n.toNat)):=by
 simp only [iaD,h2,Nat.mul_one,true_and,Nat.one_pos]
 refine propext ⟨fun ⟨a,b,c⟩=>⟨a,om,c⟩,fun ⟨a,b,c⟩=>⟨a,om,c⟩⟩
def zyD (r:Row) (j ver:Nat) (n:Int) (K:PV->Prop):Prop:=r.ver = ver/\match r.kind with | .sli _ sz _ c=>sz = 1/\0 <= n/\n < (c.length:Int)/\K (.ref j ver n.toNat) | .tab _ c=>0 <= n/\n < (c.length:Int)/\K (.ref j ver n.toNat) | _=>False
theorem zHn {e:TypeId} {k:IntKind} (j ver:Nat) (n:Int) (h2:(T e).size = 1) :
 iaD T rw (.sli e) 1 (.own j ver) (.v (.int k n)) Kp = zyD (rw j) j ver n Kp:=by
 simp only [iaD,h2,zyD,true_and,Nat.one_pos]
 cases (rw j).kind <;> simp
 ·rintro _ rfl h
  rw [Nat.mul_one]
  exact ⟨fun ⟨a,b⟩=>⟨om,b⟩,fun ⟨a,b⟩=>⟨om,b⟩⟩
 ·intros;omega
theorem zBT {e:TypeId} {k:IntKind} (len z j ver off:Nat) (n:Int) (h2:(T e).size = 1):iaD T rw (.arr len e) (z + 1) (.ref j ver off) (.v (.int k n)) Kp = (0 <= n/\n < (len:Int)/\zdW rw (.ref j ver off) (kk (Kp (.ref j ver (off + n.toNat))))):=by
 simp only [iaD,h2,Nat.mul_one,Nat.zero_lt_succ,Nat.one_pos,true_and,zmu,zeP,kk]
theorem zHo [zae] {e:TypeId} {k:IntKind} (len z j ver off:Nat) (n:Int) (h2:(T e).size = 1):iaD T rw (.arr len e) (z + 1) (.ref j ver (off + 1)) (.v (.int k n)) Kp = (0 <= n/\n < (len:Int)/\zdW rw (.ref j ver (off + 1)) (kk (Kp (.ref j ver (off + 1 + n.toNat))))):=zBT _ _ _ _ _ _ h2
theorem zBU [zae] {e:TypeId} {k:IntKind} (len z j ver:Nat) (n:Int) (h2:(T e).size = 1):iaD T rw (.arr len e) (z + 1) (.ref j ver 0) (.v (.int k n)) Kp = (0 <= n/\n < (len:Int)/\zdW rw (.ref j ver 0) (kk (Kp (.ref j ver n.toNat)))):=by
 rw [zBT _ _ _ _ _ _ h2,Nat.zero_add]
theorem zsl (j ver e:Nat) (c:List PV) (n:Int):zyD ⟨ver,.tab e c⟩ j ver n Kp = (0 <= n/\n < (c.length:Int)/\Kp (.ref j ver n.toNat)):=by simp [zyD]
theorem zsm (j ver e:Nat) (fz:Bool) (c:List PV) (n:Int):zyD ⟨ver,.sli e 1 fz c⟩ j ver n Kp = (0 <= n/\n < (c.length:Int)/\Kp (.ref j ver n.toNat)):=by simp [zyD]
theorem zf1 {α:Type} (f:α->PV) (d:α) (xs:List α) {t:TypeId} {m:Md} (o:Nat) (g:α->PV) (hg:∀ x,m.fix (f x) = g x) (h0:(T t).k.agg = false) (h1:0 < (T t).size) :
 ldK T t m (xs.map f) o Kp = (o < xs.length/\Kp (g (xs.getD o d))):=by
 simp only [ldK,h0,h1,true_and,List.length_map]
 refine propext ⟨fun ⟨a,b⟩=>⟨a,?_⟩,fun ⟨a,b⟩=>⟨a,?_⟩⟩
 ·have e:(xs.map f).getD o .junk = f xs[o]:=by simp [List.getD,a]
  have e2:xs.getD o d = xs[o]:=by simp [List.getD,a]
  rw [e,hg] at b
  rw [e2]
  exact b
 ·have e:(xs.map f).getD o .junk = f xs[o]:=by simp [List.getD,a]
  have e2:xs.getD o d = xs[o]:=by simp [List.getD,a]
  rw [e,hg]
  rw [e2] at b
  exact b
theorem zyE (m:Md) (v:Value):m.fix (.v v) = .v v:=by cases m <;> rfl
theorem zHp (fr f:Bool) (sz:Nat) (c:List PV):(Md.set fr).fix (.sl f sz c) = .sl fr sz c:=(rfl)
theorem zwX (p:PV):Md.asis.fix p = p:=(rfl)
theorem zL8 [zae] (xs:List Int) {t:TypeId} {m:Md} (o:Nat) (h0:(T t).k.agg = false) (h1:0 < (T t).size):ldK T t m (iL xs) o Kp = (o < xs.length/\Kp (.v (.int .i64 (xs.getD o 0)))) :=
 zf1 _ 0 xs o _ (fun x=>zyE m _) h0 h1
theorem zL9 [zae] (k:IntKind) (xs:List Int) {t:TypeId} {m:Md} (o:Nat) (h0:(T t).k.agg = false) (h1:0 < (T t).size):ldK T t m (kL k xs) o Kp = (o < xs.length/\Kp (.v (.int k (xs.getD o 0)))) :=
 zf1 _ 0 xs o _ (fun x=>zyE m _) h0 h1
theorem zMa [zae] (xs:List Bool) {t:TypeId} {m:Md} (o:Nat) (h0:(T t).k.agg = false) (h1:0 < (T t).size):ldK T t m (bL xs) o Kp = (o < xs.length/\Kp (.v (.bool (xs.getD o false)))) :=
 zf1 _ false xs o _ (fun x=>zyE m _) h0 h1
theorem zMb [zae] (xs:List ByteArray) {t:TypeId} {m:Md} (o:Nat) (h0:(T t).k.agg = false) (h1:0 < (T t).size):ldK T t m (sL xs) o Kp = (o < xs.length/\Kp (.v (.string (xs.getD o ⟨#[]⟩)))) :=
 zf1 (fun n=>PV.v (.string n)) ⟨#[]⟩ xs o (fun n=>PV.v (.string n)) (fun x=>zyE m _) h0 h1
theorem zHq [zae] (xs:List (List Int)) {t:TypeId} {fr:Bool} (o:Nat) (h0:(T t).k.agg = false) (h1:0 < (T t).size):ldK T t (.set fr) (iLL xs) o Kp = (o < xs.length/\Kp (.sl fr 1 (iL (xs.getD o [])))) :=
 zf1 _ [] xs o (fun r=>.sl fr 1 (iL r)) (fun x=>rfl) h0 h1
theorem zMc {t:TypeId} {m:Md} (p:PV) (c:List PV) (h0:(T t).k.agg = false) (h1:0 < (T t).size):ldK T t m (p :: c) 0 Kp = evK (m.fix p) Kp:=by simp [ldK,h0,h1,evK]
theorem zMd {t:TypeId} {m:Md} (p q:PV) (c:List PV) (h0:(T t).k.agg = false) (h1:0 < (T t).size):ldK T t m (p :: q :: c) 1 Kp = evK (m.fix q) Kp:=by simp [ldK,h0,h1,evK]
theorem zMe {t:TypeId} {m:Md} (p q r:PV) (c:List PV) (h0:(T t).k.agg = false) (h1:0 < (T t).size):ldK T t m (p :: q :: r :: c) 2 Kp = evK (m.fix r) Kp:=by simp [ldK,h0,h1,evK]
theorem zMf {t:TypeId} {m:Md} (p q r s:PV) (c:List PV) (h0:(T t).k.agg = false) (h1:0 < (T t).size):ldK T t m (p :: q :: r :: s :: c) 3 Kp = evK (m.fix s) Kp:=by simp [ldK,h0,h1,evK]
theorem zBV {t:TypeId} {m:Md} (p:PV) (c0:List PV) (o:Nat) (h0:(T t).k.agg = true) (h1:0 < (T t).size):ldK T t m (p :: c0) o Kp = (o + (T t).size <= (p :: c0).length/\evK (.ag ((((p :: c0).drop o).take (T t).size).map m.fix)) Kp):=by simp [ldK,h0,h1,evK]
def zwY (T:Tab) (kd:TK) (z:Nat) (f:Nat) (K:Nat->TypeId->Prop):Prop :=
 0 < z/\match kd with | .struct fs=>(match fs[f]? with | some (o,ft)=>0 < (T ft).size/\K o ft | none=>False) | _=>False
def zMg (T:Tab) (x:Option (Nat × TypeId)) (K:Nat->TypeId->Prop):Prop:=match x with | some (o,ft)=>0 < (T ft).size/\K o ft | none=>False
theorem zwZ (t:TypeId) (f:Nat) (Kf:Nat->TypeId->Prop):zei T t f Kf = zwY T (T t).k (T t).size f Kf:=(rfl)
theorem zf2 (fs:List (Nat × TypeId)) (z f:Nat) (Kf:Nat->TypeId->Prop):zwY T (.struct fs) (z + 1) f Kf = zMg T fs[f]? Kf:=by simp only [zwY,zMg,Nat.zero_lt_succ,true_and]
theorem zsn (o:Nat) (ft:TypeId) (Kf:Nat->TypeId->Prop) (h:0 < (T ft).size):zMg T (some (o,ft)) Kf = Kf o ft:=by simp [zMg,h]
theorem zih [zae] (fs:List (Nat × TypeId)) (f:Nat) (Kf:Nat->TypeId->Prop):zwY T (.struct fs) 2 f Kf = zMg T fs[f]? Kf:=zf2 fs 1 f Kf
theorem zso (fr:Bool) (c:List PV) (o:Nat) (A:Prop):zdW rw (.eref fr c o) (kk A) = A:=(rfl)
theorem zw0 (f:FuncId) (c:List PV) (A:Prop):zdW rw (.clo f c) (kk A) = A:=(rfl)
def zi8 (r:Row) (ver:Nat) (A:Prop):Prop:=r.ver = ver/\r.kind.nd = true/\A
theorem zw1 (j ver o:Nat) (A:Prop):zdW rw (.ref j ver o) A = zi8 (rw j) ver A:=(rfl)
theorem zlS (ver:Nat) (bt:TypeId) (c:List PV) (A:Prop):zi8 ⟨ver,.box bt c⟩ ver (kk A) = A:=by simp [zi8,RK.nd,kk]
theorem zsp (j v o:Nat):zmu (.ref j v o) = true:=(rfl)
theorem zoK (fr:Bool) (c:List PV) (o:Nat):zmu (.eref fr c o) = true:=(rfl)
theorem zsq (j v o d:Nat):zeP (.ref j v o) d = .ref j v (o + d):=(rfl)
theorem zoL (fr:Bool) (c:List PV) (o d:Nat):zeP (.eref fr c o) d = .eref fr c (o + d):=(rfl)
def zIy (kd kd2:TK) (x:PV) (K:PV->Prop):Prop:=match kd,kd2,x with
 | .int _,.int k,.v (.int _ n)=>K (.v (.int k (k.wrap n)))
 | .str,.str,.v (.string s)=>K (.v (.string s))
 | _,_,_=>False
theorem zw2 {a b:TypeId} {k:IntKind} (n:Int) (h1:(T a).k.isInt = true) (h2:(T b).k.isInt = true) (h3:0 < (T a).size) (h4:0 < (T b).size):zg0 T rw a b (.v (.int k n)) Kp = zIy (T a).k (T b).k (.v (.int k n)) Kp:=by
 revert h1 h2
 simp only [zg0,zIy,h3,h4,true_and]
 cases (T a).k <;> simp [TK.isInt]
 cases (T b).k <;> simp [TK.isInt]
theorem zsr (k1 k2 k:IntKind) (n:Int):zIy (.int k1) (.int k2) (.v (.int k n)) Kp = Kp (.v (.int k2 (k2.wrap n))):=(rfl)
theorem zw3 {a b:TypeId} (n:ByteArray) (h1:(T a).k = .str) (h2:(T b).k = .str) (h3:0 < (T a).size) (h4:0 < (T b).size):zg0 T rw a b (.v (.string n)) Kp = Kp (.v (.string n)):=by
 simp [zg0,h1,h2,h3,h4]
theorem zss {t:TypeId} {k:IntKind} (b:ByteArray) (n:Int) (h0:(T t).k = .str) (h1:0 < (T t).size):zws T t (.v (.string b)) (.v (.int k n)) Kp = (0 <= n/\n.toNat < b.size/\Kp (.v (.int .u8 ((b.data.toList.getD n.toNat 0).toNat:Int)))):=by
 simp [zws,h0,h1]
theorem zoM (k k':IntKind) (a b:Int):zc9 true (.v (.int k a)) (.v (.int k' b)) Kp = Kp (.v (.int k (if b > a then b else a))):=(rfl)
theorem zoN (k k':IntKind) (a b:Int):zc9 false (.v (.int k a)) (.v (.int k' b)) Kp = Kp (.v (.int k (if b < a then b else a))):=(rfl)
def zuv (p:PV) (K:Int->Prop):Prop:=match p with | .v (.int _ n)=>K n | _=>False
theorem zw4 (k:IntKind) (n:Int) (Ki:Int->Prop):zuv (.v (.int k n)) Ki = Ki n:=(rfl)
def zp6 (T:Tab) (rw:Nat->Row) (ev:Operand->PV) (kd:TK) (z:Nat) (x:PV) (lo hi mx:Option Operand) (K:PV->Prop):Prop :=
 0 < z/\match kd with
 | .str=>mx = none/\(match x with
  | .v (.string s)=>znw ev lo 0 fun l=>znw ev hi s.size fun h=>0 <= l/\l <= h/\h <= s.size/\K (.v (.string (s.extract l.toNat h.toNat)))
  | _=>False)
 | .sli e=>zhu rw x fun fr sz c=>0 < (T e).size/\sz = (T e).size /\
  znw ev lo 0 fun l=>znw ev hi ((c.length / sz:Nat):Int) fun h=>znw ev mx ((c.length / sz:Nat):Int) fun m=>0 <= l/\l <= h/\h <= m/\m <= ((c.length / sz:Nat):Int)/\(hi = none->mx = none) /\
   K (.sl fr sz ((c.take (h.toNat * sz)).drop (l.toNat * sz)))
 | _=>False
theorem zHr (t:TypeId) (ev:Operand->PV) (x:PV) (lo hi mx:Option Operand):zbJ T rw ev t x lo hi mx Kp = zp6 T rw ev (T t).k (T t).size x lo hi mx Kp:=(rfl)
theorem zw5 {e:TypeId} (fr:Bool) (c:List PV) (x:Operand) (h2:(T e).size = 1):zp6 T rw s.ev (.sli e) 1 (.sl fr 1 c) (some x) none none Kp = zuv (s.ev x) (kk fun l=>0 <= l/\l <= (c.length:Int)/\Kp (.sl fr 1 (c.drop l.toNat))):=by
 simp only [zp6,zhu,znw,h2,zuv,kk]
 cases s.ev x <;> simp
 rename_i v
 cases v <;> simp
theorem zw6 {e:TypeId} (fr:Bool) (c:List PV) (x:Operand) (h2:(T e).size = 1):zp6 T rw s.ev (.sli e) 1 (.sl fr 1 c) none (some x) none Kp = zuv (s.ev x) (kk fun l=>0 <= l/\l <= (c.length:Int)/\Kp (.sl fr 1 (c.take l.toNat))):=by
 simp only [zp6,zhu,znw,h2,zuv,kk]
 cases s.ev x <;> simp
 rename_i v
 cases v <;> simp
theorem zw7 {e:TypeId} (fr:Bool) (c:List PV) (x y:Operand) (h2:(T e).size = 1):zp6 T rw s.ev (.sli e) 1 (.sl fr 1 c) (some x) (some y) none Kp = zuv (s.ev x) (kk fun l=>zuv (s.ev y) (kk fun h=>0 <= l/\l <= h/\h <= (c.length:Int)/\Kp (.sl fr 1 ((c.take h.toNat).drop l.toNat)))):=by
 simp only [zp6,zhu,znw,h2,zuv,kk]
 cases s.ev x <;> simp
 rename_i v
 cases v <;> simp
 rename_i q n
 cases s.ev y <;> try simp
 rename_i v
 cases v <;> try simp
theorem zBW {e:TypeId} (fr:Bool) (c:List PV) (h2:(T e).size = 1):zp6 T rw s.ev (.sli e) 1 (.sl fr 1 c) none none none Kp = Kp (.sl fr 1 c):=by
 simp only [zp6,zhu,znw,h2]
 simp
theorem zw8 (b:ByteArray) (x:Operand):zp6 T rw s.ev .str 1 (.v (.string b)) (some x) none none Kp = zuv (s.ev x) (kk fun l=>0 <= l/\l <= (b.size:Int)/\Kp (.v (.string (b.extract l.toNat b.size)))):=by
 simp only [zp6,znw,zuv,kk]
 cases s.ev x <;> simp
 rename_i v
 cases v <;> simp
theorem zw9 (b:ByteArray) (x:Operand):zp6 T rw s.ev .str 1 (.v (.string b)) none (some x) none Kp = zuv (s.ev x) (kk fun h=>0 <= h/\h <= (b.size:Int)/\Kp (.v (.string (b.extract 0 h.toNat)))):=by
 simp only [zp6,znw,zuv,kk]
 cases s.ev x <;> simp
 rename_i v
 cases v <;> simp
theorem zxa (b:ByteArray) (x y:Operand):zp6 T rw s.ev .str 1 (.v (.string b)) (some x) (some y) none Kp = zuv (s.ev x) (kk fun l=>zuv (s.ev y) (kk fun h=>0 <= l/\l <= h/\h <= (b.size:Int)/\Kp (.v (.string (b.extract l.toNat h.toNat))))):=by
 simp only [zp6,znw,zuv,kk]
 cases s.ev x <;> simp
 rename_i v
 cases v <;> simp
 rename_i q n
 cases s.ev y <;> try simp
 rename_i v
 cases v <;> try simp
def zxb (T:Tab) (r:Row) (k ver:Nat) (ev:Operand->PV) (e z:Nat) (rw:Nat->Row) (lo hi mx:Option Operand) (K:PV->Prop):Prop :=
 k < 1000000/\r.ver = ver/\match r.kind with | .sli _ sz true c=>zp6 T rw ev (.sli e) z (.sl true sz c) lo hi mx K | _=>False
theorem zBX (e z k ver:Nat) (lo hi mx:Option Operand):zp6 T rw s.ev (.sli e) z (.own k ver) lo hi mx Kp = zxb T (rw k) k ver s.ev e z rw lo hi mx Kp:=by
 have el:(k < lent) = (k < 1000000):=rfl
 simp only [zp6,zhu,zxb,el]
 cases (rw k).kind with
 | sli e' sz fz c =>
   cases fz <;> simp
   refine ⟨fun ⟨a,b,c,d,h⟩=>⟨b,c,a,d,h⟩,fun ⟨b,c,a,d,h⟩=>⟨a,b,c,d,h⟩⟩
 | _=>simp
theorem zoO (e z k ver e' sz:Nat) (rw':Nat->Row) (c:List PV) (lo hi mx:Option Operand):zxb T ⟨ver,.sli e' sz true c⟩ k ver s.ev e z rw' lo hi mx Kp = (k < 1000000/\zp6 T rw' s.ev (.sli e) z (.sl true sz c) lo hi mx Kp):=by simp [zxb]
theorem zBY {Kf:List Nat->PV->Prop} (t:TypeId) (fr:Bool) (z:Nat) (c:List PV) (lo hi mx:Option Operand):zKm T s t (.sl fr z c) lo hi mx (kk Kf) = zbJ T s.rw s.ev t (.sl fr z c) lo hi mx (kk fun p=>Kf [] p):=(rfl)
theorem zHs {Kf:List Nat->PV->Prop} (t:TypeId) (x:Value) (lo hi mx:Option Operand):zKm T s t (.v x) lo hi mx (kk Kf) = zbJ T s.rw s.ev t (.v x) lo hi mx (kk fun p=>Kf [] p):=(rfl)
def zBZ (T:Tab) (s:St) (t:TypeId) (r:Row) (k ver:Nat) (lo hi mx:Option Operand) (K:List Nat->PV->Prop):Prop :=
 match r.kind with
 | .sli _ _ false _=>zbJ T (s.freeze [k]).rw s.ev t (.own k ver) lo hi mx (kk fun p=>K [k] p)
 | _=>zbJ T s.rw s.ev t (.own k ver) lo hi mx (kk fun p=>K [] p)
theorem zxc {Kf:List Nat->PV->Prop} (t:TypeId) (k ver:Nat) (lo hi mx:Option Operand):zKm T s t (.own k ver) lo hi mx (kk Kf) = zBZ T s t (s.rw k) k ver lo hi mx (kk Kf):=(rfl)
theorem zlT {Kf:List Nat->PV->Prop} (t:TypeId) (v e z:Nat) (c:List PV) (k ver:Nat) (lo hi mx:Option Operand):zBZ T s t ⟨v,.sli e z false c⟩ k ver lo hi mx (kk Kf) = zbJ T (s.freeze [k]).rw s.ev t (.own k ver) lo hi mx (kk fun p=>Kf [k] p):=(rfl)
theorem zst {Kf:List Nat->PV->Prop} (t:TypeId) (v e z:Nat) (c:List PV) (k ver:Nat) (lo hi mx:Option Operand):zBZ T s t ⟨v,.sli e z true c⟩ k ver lo hi mx (kk Kf) = zbJ T s.rw s.ev t (.own k ver) lo hi mx (kk fun p=>Kf [] p):=(rfl)
theorem zB0 {Kc:List PV->Prop} (x:Value) (h:x.oneCell' = true):za5 rw (.v x) Kc = Kc [.v x]:=by simp [za5,h]
theorem zp7 {Kc:List PV->Prop} (c:List PV):za5 rw (.ag c) Kc = Kc c:=(rfl)
theorem zxd {Kc:List PV->Prop} (fr:Bool) (sz:Nat) (c:List PV):za5 rw (.sl fr sz c) Kc = Kc [.sl fr sz c]:=(rfl)
theorem zsu {Kc:List PV->Prop} (f:FuncId) (c:List PV):za5 rw (.clo f c) Kc = Kc [.clo f c]:=(rfl)
def zii (r:Row) (ver:Nat) (A:Prop):Prop:=r.ver = ver/\r.kind.slice = true/\A
theorem zsv {Kc:List PV->Prop} (j ver:Nat):za5 rw (.own j ver) Kc = zii (rw j) ver (kk (Kc [.own j ver])):=(rfl)
theorem zoP (ver e sz:Nat) (fz:Bool) (c:List PV) (A:Prop):zii ⟨ver,.sli e sz fz c⟩ ver (kk A) = A:=by simp [zii,RK.slice,kk]
theorem zoQ (ver e:Nat) (c:List PV) (A:Prop):zii ⟨ver,.tab e c⟩ ver (kk A) = A:=by simp [zii,RK.slice,kk]
theorem zsw {Kc:List PV->Prop} (j ver o:Nat):za5 rw (.ref j ver o) Kc = zi8 (rw j) ver (kk (Kc [.ref j ver o])):=(rfl)
theorem zHt {Kc:List PV->List Nat->Prop} (x:Value) (h:x.oneCell' = true):zds rw (.v x) Kc = Kc [.v x] []:=by simp [zds,h]
theorem zB1 {Kc:List PV->List Nat->Prop} (sz:Nat) (c:List PV):zds rw (.sl true sz c) Kc = Kc [.sl false sz c] []:=by simp [zds]
theorem zB2 {Kc:List PV->List Nat->Prop} (c:List PV):zds rw (.ag c) Kc = ((∀ x ∈ c,isV x = true)/\Kc c []):=(rfl)
def zuw (r:Row) (k ver:Nat) (K:List PV->List Nat->Prop):Prop:=r.ver = ver/\k < lent/\(match r.kind with | .nil=>K [.sl false 1 []] [] | .sli _ sz _ c=>K [.sl false sz c] [k] | _=>False)
theorem zxe {Kc:List PV->List Nat->Prop} (j ver:Nat):zds rw (.own j ver) Kc = zuw (rw j) j ver Kc:=(rfl)
theorem zlU {Kc:List PV->List Nat->Prop} (j ver e sz:Nat) (fz:Bool) (c:List PV) (h:j < lent):zuw ⟨ver,.sli e sz fz c⟩ j ver Kc = Kc [.sl false sz c] [j]:=by simp [zuw,h]
def allP (rw:Nat->Row) (l:List PV):Prop:=∀ p ∈ l,zj1 rw p
theorem zB3 (rw:Nat->Row) (l:List PV):(∀ p ∈ l,zj1 rw p) = allP rw l:=(rfl)
theorem zxf (rw:Nat->Row):allP rw [] = True:=by simp [allP]
theorem zsx (rw:Nat->Row) (p:PV) (l:List PV):allP rw (p :: l) = (zj1 rw p/\allP rw l):=by simp [allP]
def zfy (s:St) (z j ver off:Nat) (r:Row) (x:PV) (K:St->Prop):Prop:=0 < z/\r.ver = ver/\match r.kind with
 | .box bt c=>za5 s.rw x fun new=>new.length = z/\off + new.length <= c.length/\allP s.rw new/\K (s.row j ⟨ver,.box bt (spl c off new)⟩)
 | .sli e sz false c=>zds s.rw x fun new fz=>new.length = z/\off + new.length <= c.length/\j ∉ fz/\K ((s.freeze fz).row j ⟨ver,.sli e sz false (spl c off new)⟩)
 | .tab e c=>za5 s.rw x fun new=>new.length = z/\off + new.length <= c.length/\allP s.rw new/\K (s.row j ⟨ver,.tab e (spl c off new)⟩)
 | _=>False
theorem zsy (j ver off e:Nat) (c:List PV) (x:PV):zfy s 1 j ver off ⟨ver,.tab e c⟩ x K = za5 s.rw x (kk fun new=>new.length = 1/\off + new.length <= c.length/\allP s.rw new/\K (s.row j ⟨ver,.tab e (spl c off new)⟩)):=by
 simp only [zfy,Nat.one_pos,true_and,kk]
theorem zxg (t:TypeId) (j ver off:Nat) (x:PV):zto T s t (.ref j ver off) x K = zfy s (T t).size j ver off (s.rw j) x K:=(rfl)
theorem zlV [zae]:s.freeze [] = s:=St.freeze_nil s
theorem zsz (j ver off e sz:Nat) (c:List PV) (x:PV):zfy s 1 j ver off ⟨ver,.sli e sz false c⟩ x K = zds s.rw x (kk fun new fz=>new.length = 1/\off + new.length <= c.length/\j ∉ fz/\K ((s.freeze fz).row j ⟨ver,.sli e sz false (spl c off new)⟩)):=by
 simp only [zfy,Nat.one_pos,true_and,kk]
theorem zf3 (z j ver off:Nat) (bt:TypeId) (c:List PV) (x:PV):zfy s (z + 1) j ver off ⟨ver,.box bt c⟩ x K = za5 s.rw x (kk fun new=>new.length = z + 1/\off + new.length <= c.length/\allP s.rw new/\K (s.row j ⟨ver,.box bt (spl c off new)⟩)):=by
 simp only [zfy,Nat.zero_lt_succ,true_and,kk]
theorem zoR [zae] (j ver off:Nat) (bt:TypeId) (c:List PV) (x:PV):zfy s 1 j ver off ⟨ver,.box bt c⟩ x K = za5 s.rw x (kk fun new=>new.length = 1/\off + new.length <= c.length/\allP s.rw new/\K (s.row j ⟨ver,.box bt (spl c off new)⟩)):=zf3 0 j ver off bt c x
theorem zoS [zae] (j ver off:Nat) (bt:TypeId) (c:List PV) (x:PV):zfy s 2 j ver off ⟨ver,.box bt c⟩ x K = za5 s.rw x (kk fun new=>new.length = 2/\off + new.length <= c.length/\allP s.rw new/\K (s.row j ⟨ver,.box bt (spl c off new)⟩)):=zf3 1 j ver off bt c x
theorem zHu (rw:Nat->Row) (v:Value):zj1 rw (.v v) = (v.oneCell' = true):=(rfl)
theorem zB4 (rw:Nat->Row) (fr:Bool) (z:Nat) (c:List PV):zj1 rw (.sl fr z c) = True:=(rfl)
theorem zsA (rw:Nat->Row) (fr:Bool) (c:List PV) (o:Nat):zj1 rw (.eref fr c o) = True:=(rfl)
theorem zxh (rw:Nat->Row) (f:FuncId) (c:List PV):zj1 rw (.clo f c) = True:=(rfl)
theorem zp8 (rw:Nat->Row) (j v:Nat):zj1 rw (.own j v) = zii (rw j) v (kk True):=by simp [zj1,zii,kk]
theorem zxi (rw:Nat->Row) (j v o:Nat):zj1 rw (.ref j v o) = zi8 (rw j) v (kk True):=by simp [zj1,zi8,kk]
theorem zoT [zae] (j ver off:Nat) (bt:TypeId) (c:List PV) (x:PV):zfy s 3 j ver off ⟨ver,.box bt c⟩ x K = za5 s.rw x (kk fun new=>new.length = 3/\off + new.length <= c.length/\allP s.rw new/\K (s.row j ⟨ver,.box bt (spl c off new)⟩)):=zf3 2 j ver off bt c x
theorem zoU [zae] (j ver off:Nat) (bt:TypeId) (c:List PV) (x:PV):zfy s 4 j ver off ⟨ver,.box bt c⟩ x K = za5 s.rw x (kk fun new=>new.length = 4/\off + new.length <= c.length/\allP s.rw new/\K (s.row j ⟨ver,.box bt (spl c off new)⟩)):=zf3 3 j ver off bt c x
def zlW (T:Tab) (rw:Nat->Row) (y:PV) (K:List PV->Prop):Prop:=slK rw y fun fr sz news=>sz = 1/\((∀ p ∈ news,isV p = true) \/ (fr = true/\∀ p ∈ news,zud p = true))/\K news
def zlX (T:Tab) (s:St) (d j ver e:Nat) (r:Row) (news:List PV) (K:St->Prop):Prop:=r.ver = ver/\match r.kind with
 | .nil=>news.length * (T e).bytes <= 140737488355328/\K (zdG s d j (.sli e 1 false news))
 | .sli e' sz' false c=>e' = e/\sz' = 1/\(c.length + news.length) * (T e).bytes <= 140737488355328/\K (zdG s d j (.sli e 1 false (c ++ news)))
 | _=>False
def zMh (T:Tab) (s:St) (d e:Nat) (x:PV) (news:List PV) (K:St->Prop):Prop:=match x with
 | .v u=>zey u = true/\news.length * (T e).bytes <= 140737488355328/\K (zcX s d (.sli e 1 false news) (fun v=>.own d v))
 | .own j ver=>zlX T s d j ver e (s.rw j) news K
 | _=>False
def zNA (T:Tab) (s:St) (d:Nat) (kd:TK) (z:Nat) (x y:PV) (K:St->Prop):Prop :=
 0 < z/\match kd with
 | .sli e=>0 < (T e).size/\0 < (T e).bytes/\slK s.rw y fun fr sz news=>sz = (T e).size/\((∀ p ∈ news,isV p = true) \/ (fr = true/\∀ p ∈ news,zud p = true)) /\
  (match x with
  | .v u=>zey u = true/\news.length * (T e).bytes <= 140737488355328/\K (zcX s d (.sli e (T e).size false news) (fun v=>.own d v))
  | .own k ver=>(s.rw k).ver = ver/\(match (s.rw k).kind with
   | .nil=>news.length * (T e).bytes <= 140737488355328/\K (zdG s d k (.sli e (T e).size false news))
   | .sli e' sz' false c=>e' = e/\sz' = (T e).size/\(c.length + news.length) * (T e).bytes <= 140737488355328/\K (zdG s d k (.sli e (T e).size false (c ++ news)))
   | _=>False)
  | _=>False)
 | _=>False
theorem zsB (d:Nat) (t:TypeId) (x y:PV):zmm T s d t t x y K = zNA T s d (T t).k (T t).size x y K:=propext ⟨fun h=>h.2,fun h=>⟨rfl,h⟩⟩
theorem zxj {d e:Nat} (x y:PV) (h2:(T e).size = 1) (h3:0 < (T e).bytes):zNA T s d (.sli e) 1 x y K = zlW T s.rw y (kk fun news=>zMh T s d e x news (kk K)):=by
 unfold zNA zlW
 simp only [h2,h3,true_and,kk,Nat.one_pos]
 unfold zMh zlX
 cases x <;> rfl
theorem zxk (d e j ver:Nat) (news:List PV):zMh T s d e (.own j ver) news K = zlX T s d j ver e (s.rw j) news K:=(rfl)
theorem zxl (d e:Nat) (news:List PV):zMh T s d e (.v (.slice none 0 0)) news K = (news.length * (T e).bytes <= 140737488355328/\K (zcX s d (.sli e 1 false news) (fun v=>.own d v))):=by simp [zMh,zey]
theorem zoV (d j ver e:Nat) (c news:List PV):zlX T s d j ver e ⟨ver,.sli e 1 false c⟩ news K = ((c.length + news.length) * (T e).bytes <= 140737488355328/\K (zdG s d j (.sli e 1 false (c ++ news)))):=by simp [zlX]
theorem zoW (d j ver e:Nat) (news:List PV):zlX T s d j ver e ⟨ver,.nil⟩ news K = (news.length * (T e).bytes <= 140737488355328/\K (zdG s d j (.sli e 1 false news))):=by simp [zlX]
variable {Kc:List PV->Prop}
theorem zB5 (c:List PV) (h:∀ p ∈ c,isV p = true) (fr:Bool):zlW T rw (.sl fr 1 c) Kc = Kc c:=by
 have e:(∀ p ∈ c,isV p = true) = True:=eq_true h
 simp only [zlW,slK,e,true_or,true_and]
theorem zB6 [zae] (xs:List Int) (fr:Bool):zlW T rw (.sl fr 1 (iL xs)) Kc = Kc (iL xs):=zB5 _ (by simpa using zAC xs) fr
theorem zB7 [zae] (k:IntKind) (xs:List Int) (fr:Bool):zlW T rw (.sl fr 1 (kL k xs)) Kc = Kc (kL k xs):=zB5 _ (by simpa using zLN k xs) fr
theorem zB8 [zae] (xs:List ByteArray) (fr:Bool):zlW T rw (.sl fr 1 (sL xs)) Kc = Kc (sL xs):=zB5 _ (by simpa using zGP xs) fr
theorem zxm [zae] (xs:List (List Int)):zlW T rw (.sl true 1 (iLL xs)) Kc = Kc (iLL xs):=by
 have:∀ p ∈ iLL xs,zud p = true:=by simpa using zE3 xs
 simp only [zlW,slK,true_and,true_or,eq_true this,or_true]
def zyF (c:List PV):Prop:=∀ p ∈ c,zud p = true
def zyG (r:Row) (ver:Nat) (K:List PV->Prop):Prop:=r.ver = ver/\match r.kind with | .nil=>K [] | .sli _ sz _ c=>sz = 1/\zyF c/\K c | _=>False
theorem zsC (j ver:Nat):zlW T rw (.own j ver) Kc = zyG (rw j) ver Kc:=by
 unfold zlW slK zyG
 dsimp only
 generalize (rw j).kind = kd
 cases kd with
 | sli e sz fz c =>
   dsimp only
   refine propext ⟨fun ⟨a,b,h,d⟩=>⟨a,b,?_,d⟩,fun ⟨a,b,h,d⟩=>⟨a,b,.inr ⟨rfl,h⟩,d⟩⟩
   rcases h with h | h
   ·intro p hp
    have:=h p hp
    cases p <;> simp [isV] at this
    exact this
   ·exact h.2
 | nil=>simp
 | _=>simp
theorem zsD (ver e:Nat) (fz:Bool) (c:List PV):zyG ⟨ver,.sli e 1 fz c⟩ ver Kc = (zyF c/\Kc c):=by simp [zyG]
theorem zsE (ver:Nat):zyG ⟨ver,.nil⟩ ver Kc = Kc []:=by simp [zyG]
theorem zxn:zyF [] = True:=by simp [zyF]
theorem zB9 (xs:List Int):zyF (iL xs) = True:=by simp [zyF,iL,zud,Value.oneCell']
theorem zCa (k:IntKind) (xs:List Int):zyF (kL k xs) = True:=by simp [zyF,kL,zud,Value.oneCell']
theorem zCb (xs:List ByteArray):zyF (sL xs) = True:=by simp [zyF,sL,zud,Value.oneCell']
theorem zCc (xs:List Bool):zyF (bL xs) = True:=eq_true fun p hp=>by
 simp only [bL,List.mem_map] at hp
 obtain ⟨x,_,rfl⟩:=hp
 rfl
theorem zxo (xs:List (List Int)):zyF (iLL xs) = True:=by simp [zyF,iLL,zud]
theorem zsF (j:Nat):[j].Nodup = True:=sp
theorem zsG (i j:Nat):[i,j].Nodup = (i ≠ j):=sp
theorem zCd (j:Nat):(j < lent) = (j < 1000000):=(rfl)
theorem zMi (v u:Value) {Kn:List Nat->Prop}:zs6 rw (.v v) (.im (.v u)) Kn = (PV.v u = PV.v v/\Kn []):=(rfl)
def zsH (r:Row) (j ver e sz:Nat) (c:List PV) (K:List Nat->Prop):Prop:=j < lent/\r.ver = ver/\(match r.kind with
 | .nil=>c = []/\K []
 | .sli e' sz' false c'=>e' = e/\sz' = sz/\c' = c/\K [j]
 | _=>False)
theorem zCe (j ver e sz:Nat) (c:List PV) {Kn:List Nat->Prop}:zs6 rw (.own j ver) (.fr e sz c) Kn = zsH (rw j) j ver e sz c Kn:=(rfl)
theorem zi9 (j ver e sz:Nat) (c c':List PV) {Kn:List Nat->Prop} (h:j < lent):zsH ⟨ver,.sli e sz false c'⟩ j ver e sz c Kn = (c' = c/\Kn [j]):=by simp [zsH,h]
theorem zxp {t:Nat} {rv:RV}:zyH T s [.tmp t] rv = zs6 s.rw (s.sl t) rv List.Nodup:=(rfl)
theorem zsI {a:Nat} {t:TypeId} {rv:RV}:zyH T s [.cell a t] rv = zue s.rw (s.sl a) (kk fun m c off=>ldK T t m c off (kk fun p=>zs6 s.rw p rv List.Nodup)):=(rfl)
theorem zxq {r1 r2:ResultVar} {rv:RV}:zyH T s [r1,r2] rv = zCo T s [r1,r2] (kk fun ps=>zs6 s.rw (.tup ps) rv List.Nodup):=(rfl)
theorem zoX {r1 r2 r3:ResultVar} {rv:RV}:zyH T s [r1,r2,r3] rv = zCo T s [r1,r2,r3] (kk fun ps=>zs6 s.rw (.tup ps) rv List.Nodup):=(rfl)
theorem zxr (Kr:List PV->Prop):zCo T s [] (kk Kr) = Kr []:=(rfl)
theorem zxs (t:Nat) (rs:List ResultVar) (Kr:List PV->Prop):zCo T s (.tmp t :: rs) (kk Kr) = evK (s.sl t) (kk fun p=>zCo T s rs (kk fun ps=>Kr (p :: ps))):=(rfl)
theorem zsJ (a:Nat) (t:TypeId) (rs:List ResultVar) (Kr:List PV->Prop):zCo T s (.cell a t :: rs) (kk Kr) = zue s.rw (s.sl a) (kk fun m c off=>ldK T t m c off (kk fun p=>zCo T s rs (kk fun ps=>Kr (p :: ps)))):=(rfl)
theorem zxt (e sz:Nat) (c:List PV) {Kn:List Nat->Prop}:zs6 rw (.v (.slice none 0 0)) (.fr e sz c) Kn = (c = []/\Kn []):=by simp [zs6,znF,zey]
theorem zxu (e sz:Nat) (c:List PV) {Kn:List Nat->Prop}:zCp rw (.v (.slice none 0 0)) (.fr e sz c) Kn = (c = []/\Kn []):=by simp [zCp,znF,zey]
theorem zxv (e sz:Nat) (c:List PV) {Kn:List Nat->Prop}:znF rw (.v (.slice none 0 0)) (.fr e sz c) Kn = (c = []/\Kn []):=by simp [znF,zey]
theorem zoY [zae] (d e sz:Nat) (y:Value) (c:List PV):zal s d (.tup [.ag [.fr e sz c],.im (.v y)]) = (s.row d ⟨(s.rw d).ver + 1,.sli e sz false c⟩).put (some d) (.tup [.ag [.own d ((s.rw d).ver + 1)],.v y]):=by
 unfold zal
 simp [zby,zce,leaves,zaw,zaY,zbO,zbI,zbl,zak,St.row,zhv]
 rfl
theorem zoZ [zae] (d e sz:Nat) (x y:Value) (c:List PV):zal s d (.tup [.ag [.im (.v x),.fr e sz c],.im (.v y)]) = (s.row d ⟨(s.rw d).ver + 1,.sli e sz false c⟩).put (some d) (.tup [.ag [.v x,.own d ((s.rw d).ver + 1)],.v y]):=by
 unfold zal
 simp [zby,zce,leaves,zaw,zaY,zbO,zbI,zbl,zak,St.row,zhv]
 rfl
theorem zsK [zae] (d e sz:Nat) (y:Value) (c:List PV):zal s d (.tup [.ag [.fr e sz c],.im (.v y)]) = (s.row d ⟨(s.rw d).ver + 1,.sli e sz false c⟩).put (some d) (.tup [.ag [.own d ((s.rw d).ver + 1)],.v y]):=by
 unfold zal
 simp [zby,zce,leaves,zaw,zaY,zbO,zbI,zbl,zak,St.row,zhv]
 rfl
theorem zed (d:Nat) (v:Value):zal s d (.im (.v v)) = s.put (some d) (.v v):=by
 unfold zal
 simp [leaves,zaw,zaY,zbI,zhv]
theorem zE9 [zae] {f:FuncId} {raw lent:List PV} {k d:Nat} {x:Value} {r:Row} {Ke:Ent->St->Prop} {Ka:RV->Prop} {us:Dm s} {u:Dm Ke} (rd:List Nat) (h:∀ s':St,s'.rw k = s.rw k->(∀ a ∈ rd,s'.rw a = s.rw a)->∀ K':St->Prop,K' ((s'.row k r).put (some d) (.v x))->askG P s' f raw (some d) K') (hd:d % 1000 ≠ k % 1000)
 (hk:Ke ⟨rd,.ids [d,k]⟩ ((s.row k r).put (some d) (.v x))):zf0 P f lent Ka (zED P f raw d (kk s us) (kk Ke u)) :=
 zE8 (x:=.im (.v x)) (r:=r) rd (fun s' h1 h2 K' hk'=>h s' h1 h2 K' (by rw [zed] at hk';exact hk')) hd (by rw [zed];exact hk)
theorem zkJ (d e sz:Nat) (c:List PV):zal s d (.fr e sz c) = (s.row d ⟨(s.rw d).ver + 1,.sli e sz false c⟩).put (some d) (.own d ((s.rw d).ver + 1)):=by
 unfold zal
 simp [leaves,zaw,zaY,zbI,zak,St.row]
 rfl
theorem zsL [zae] (d e sz:Nat) (c:List PV):zal s d (.ag [.fr e sz c]) = (s.row d ⟨(s.rw d).ver + 1,.sli e sz false c⟩).put (some d) (.ag [.own d ((s.rw d).ver + 1)]):=by
 unfold zal
 simp [zce,leaves,zaw,zaY,zbO,zbl,zbI,zak,St.row]
 rfl
theorem zsM [zae] (d e sz:Nat) (x:Value) (c:List PV):zal s d (.ag [.im (.v x),.fr e sz c]) = (s.row d ⟨(s.rw d).ver + 1,.sli e sz false c⟩).put (some d) (.ag [.v x,.own d ((s.rw d).ver + 1)]):=by
 unfold zal
 simp [zce,leaves,zaw,zaY,zbO,zbl,zbI,zak,St.row,zhv]
 rfl
theorem zsN [zae] (d e sz e2 sz2:Nat) (x y:Value) (c c2:List PV):zal s d (.ag [.im (.v x),.fr e sz c,.im (.v y),.fr e2 sz2 c2]) =
 ((s.row (d + 1000) ⟨(s.rw (d + 1000)).ver + 1,.sli e2 sz2 false c2⟩).row d ⟨(s.rw d).ver + 1,.sli e sz false c⟩).put (some d) (.ag [.v x,.own d ((s.rw d).ver + 1),.v y,.own (d + 1000) ((s.rw (d + 1000)).ver + 1)]):=by
 unfold zal
 simp [zce,leaves,zaw,zaY,zbO,zbl,zbI,zak,St.row,zhv]
 rfl
theorem zsO [zae] (d:Nat) (x y:Value):zal s d (.tup [.im (.v x),.im (.v y)]) = s.put (some d) (.tup [.v x,.v y]):=by
 unfold zal
 simp [zby,leaves,zaw,zaY,zbO,zbl,zbI,zak,St.row,zhv]
theorem zsP [zae] (d e sz:Nat) (c:List PV) (y:Value):zal s d (.tup [.fr e sz c,.im (.v y)]) = (s.row d ⟨(s.rw d).ver + 1,.sli e sz false c⟩).put (some d) (.tup [.own d ((s.rw d).ver + 1),.v y]):=by
 unfold zal
 simp [zby,leaves,zaw,zaY,zbO,zbl,zbI,zak,St.row,zhv]
 rfl
theorem imm_ag [zae] (l:List RV):(RV.ag l).imm = .ag (l.map RV.imm):=RV.imm_ag l
theorem imm_tup [zae] (l:List RV):(RV.tup l).imm = .tup (l.map RV.imm):=RV.imm_tup l
theorem zCf (ps:List PV) (l:List RV) {Kn:List Nat->Prop}:zs6 rw (.ag ps) (.ag l) Kn = zzT (zCp rw) ps l Kn:=(rfl)
theorem zxw (ps:List PV) (l:List RV) {Kn:List Nat->Prop}:zs6 rw (.tup ps) (.tup l) Kn = zzT (zCp rw) ps l Kn:=(rfl)
theorem zCg (ps:List PV) (l:List RV) {Kn:List Nat->Prop}:zCp rw (.ag ps) (.ag l) Kn = zzT (znF rw) ps l Kn:=(rfl)
theorem zxx (f:PV->RV->(List Nat->Prop)->Prop) {Kn:List Nat->Prop}:zzT f [] [] Kn = Kn []:=(rfl)
theorem zsQ (f:PV->RV->(List Nat->Prop)->Prop) (p:PV) (ps:List PV) (r:RV) (rs:List RV) {Kn:List Nat->Prop}:zzT f (p :: ps) (r :: rs) Kn = f p r (kk fun a=>zzT f ps rs (kk fun b=>Kn (a ++ b))):=(rfl)
theorem zHv (v u:Value) {Kn:List Nat->Prop}:zCp rw (.v v) (.im (.v u)) Kn = (PV.v u = PV.v v/\Kn []):=(rfl)
theorem zo0 (e e2:Nat) (rows:List (List PV)) {Kn:List Nat->Prop}:znF rw (.v (.slice none 0 0)) (.tb e e2 rows) (kk Kn) = (rows = []/\Kn []):=by simp [znF,zey,kk]
theorem zHw (v u:Value) {Kn:List Nat->Prop}:znF rw (.v v) (.im (.v u)) Kn = (PV.v u = PV.v v/\Kn []):=(rfl)
theorem zxy (j ver e sz:Nat) (c:List PV) {Kn:List Nat->Prop}:zCp rw (.own j ver) (.fr e sz c) Kn = zsH (rw j) j ver e sz c Kn:=(rfl)
theorem zxz (j ver e sz:Nat) (c:List PV) {Kn:List Nat->Prop}:znF rw (.own j ver) (.fr e sz c) Kn = zsH (rw j) j ver e sz c Kn:=(rfl)
theorem zHx (v:Value):(RV.im (.v v)).imm = .v v:=by simp [RV.imm,zhv]
theorem zHy (e sz:Nat) (c:List PV):(RV.fr e sz c).imm = .sl true sz c:=by simp [RV.imm]
theorem zxA (rw:Nat->Row) (n:Nat) (k:IntKind) (x:Int):zcS rw (n + 1) (.v (.int k x)) = .v (.int k x):=(rfl)
theorem zsR (rw:Nat->Row) (n:Nat) (x:Bool):zcS rw (n + 1) (.v (.bool x)) = .v (.bool x):=(rfl)
theorem zlY (rw:Nat->Row) (n:Nat) (x:ByteArray):zcS rw (n + 1) (.v (.string x)) = .v (.string x):=(rfl)
theorem zxB (rw:Nat->Row) (n:Nat):zcS rw (n + 1) (.v (.slice none 0 0)) = .sl false 1 []:=(rfl)
theorem zCh (rw:Nat->Row) (n:Nat) (fr:Bool) (sz:Nat) (c:List PV):zcS rw (n + 1) (.sl fr sz c) = .sl false sz c:=(rfl)
theorem zCi (rw:Nat->Row) (n:Nat) (c:List PV):zcS rw (n + 1) (.ag c) = .ag (c.map (zcS rw n)):=(rfl)
theorem zsS (rw:Nat->Row) (n:Nat) (fr:Bool) (c:List PV) (o:Nat):zcS rw (n + 1) (.eref fr c o) = .eref false c o:=(rfl)
def zlZ (rw:Nat->Row) (n:Nat) (r:Row) (ver off:Nat):PV:=if r.ver = ver then (match r.kind with | .box _ c=>.eref false (c.map (zcS rw n)) off | .sli _ _ _ c=>.eref false c off | _=>.junk) else .junk
theorem zxC (rw:Nat->Row) (n j ver off:Nat):zcS rw (n + 1) (.ref j ver off) = zlZ rw n (rw j) ver off:=(rfl)
theorem zl0 (rw:Nat->Row) (n ver off:Nat) (t:TypeId) (c:List PV):zlZ rw n ⟨ver,.box t c⟩ ver off = .eref false (c.map (zcS rw n)) off:=by simp [zlZ]
theorem zl1 (rw:Nat->Row) (n ver off e z:Nat) (fz:Bool) (c:List PV):zlZ rw n ⟨ver,.sli e z fz c⟩ ver off = .eref false c off:=by simp [zlZ]
theorem zxD (rw:Nat->Row) (n:Nat) (f:FuncId) (c:List PV):zcS rw (n + 1) (.clo f c) = .clo f (c.map (zcS rw n)):=(rfl)
def zhq (rw:Nat->Row) (n:Nat) (r:Row) (ver:Nat):PV:=if r.ver = ver then (match r.kind with | .nil=>.sl false 1 [] | .sli _ sz _ c=>.sl false sz c | .tab _ c=>.sl false 1 (c.map (znK rw)) | _=>.junk) else .junk
theorem zxE (rw:Nat->Row) (n j ver:Nat):zcS rw (n + 1) (.own j ver) = zhq rw n (rw j) ver:=(rfl)
theorem zl2 (rw:Nat->Row) (n:Nat) (ver e:Nat) (c:List PV):zhq rw n ⟨ver,.tab e c⟩ ver = .sl false 1 (c.map (znK rw)):=by simp [zhq]
theorem zl3 (rw:Nat->Row) (n:Nat) (ver e sz:Nat) (fz:Bool) (c:List PV):zhq rw n ⟨ver,.sli e sz fz c⟩ ver = .sl false sz c:=by simp [zhq]
theorem zl4 (rw:Nat->Row) (n:Nat) (ver:Nat):zhq rw n ⟨ver,.nil⟩ ver = .sl false 1 []:=by simp [zhq]
end
def zCj:PV->Prop | .sl _ sz c=>c.length <= 9223372036854775807 * sz | _=>True
def zl5:PV->Prop | .sl _ sz c=>c.length <= 9223372036854775807 * sz/\∀ p ∈ c,zCj p | .ag c=>∀ p ∈ c,zCj p | .eref _ c _=>∀ p ∈ c,zCj p | _=>True
def zp9:PV->Prop | .sl _ sz c=>c.length <= 9223372036854775807 * sz/\∀ p ∈ c,zl5 p | .ag c=>∀ p ∈ c,zl5 p | .eref _ c _=>∀ p ∈ c,zl5 p | .clo _ c=>∀ p ∈ c,zl5 p | _=>True
def zEE:List PV->Prop | []=>True | p :: ps=>zp9 p/\zEE ps
theorem zqa {w:World} {E:Env} {lo:Nat} {p:PV} {x:Value} (h:Rep w E lo p x):zCj p:=by
 cases h <;> try trivial
 next sz len cap cells a cs hl hc hm hr hh =>
  show cells.length <= 9223372036854775807 * sz
  rw [hl]
  exact Nat.mul_le_mul_right _ (Nat.le_trans hc hm)
theorem zkK [zae] {w:World} {E:Env} {lo:Nat} {p:PV} {x:Value} (h:Rep w E lo p x):zl5 p:=by
 cases h <;> try trivial
 case sl fr sz len cap cells a cs hl hc hm hr hh =>
  refine ⟨?_,fun p hp=>?_⟩
  ·rw [hl];exact Nat.mul_le_mul_right _ (Nat.le_trans hc hm)
  ·obtain ⟨i,hi,rfl⟩:=List.getElem_of_mem hp;exact zqa (hh i hi)
 case eref fr cells off b o cs hr hh=>intro p hp;obtain ⟨i,hi,rfl⟩:=List.getElem_of_mem hp;exact zqa (hh i hi)
 case ag cells vs hl hh=>intro p hp;obtain ⟨i,hi,rfl⟩:=List.getElem_of_mem hp;exact zqa (hh i hi om)
theorem zFa [zae] {w:World} {E:Env} {lo:Nat} {p:PV} {x:Value} (h:Rep w E lo p x):zp9 p:=by
 cases h <;> try trivial
 case sl fr sz len cap cells a cs hl hc hm hr hh =>
  refine ⟨?_,fun p hp=>?_⟩
  ·rw [hl];exact Nat.mul_le_mul_right _ (Nat.le_trans hc hm)
  ·obtain ⟨i,hi,rfl⟩:=List.getElem_of_mem hp;exact zkK (hh i hi)
 case eref fr cells off b o cs hr hh=>intro p hp;obtain ⟨i,hi,rfl⟩:=List.getElem_of_mem hp;exact zkK (hh i hi)
 case ag cells vs hl hh=>intro p hp;obtain ⟨i,hi,rfl⟩:=List.getElem_of_mem hp;exact zkK (hh i hi om)
 case clo f cells vs hl hh=>intro p hp;obtain ⟨i,hi,rfl⟩:=List.getElem_of_mem hp;exact zkK (hh i hi om)
theorem zux [zae] {w:World} {E:Env} {lo:Nat} {ps:List PV} {vs:List Value} (h:zbu w E lo ps vs):zEE ps:=by
 have:∀ p ∈ ps,zp9 p:=by
  intro p hp
  obtain ⟨i,hi,rfl⟩:=List.getElem_of_mem hp
  exact zFa (h.2 i hi (by rw [<- h.1];exact hi))
 clear h
 induction ps with
 | nil=>trivial
 | cons p ps ih=>exact ⟨this p sp,ih fun q hq=>this q (by simp [hq])⟩
theorem zbe:zEE [] = True:=(rfl)
theorem zaS (p:PV) (ps:List PV):zEE (p :: ps) = (zp9 p/\zEE ps):=(rfl)
theorem zcU (x:Value):zp9 (.v x) = True:=(rfl)
theorem zev (x:Value):zl5 (.v x) = True:=(rfl)
theorem zdh (fr:Bool) (xs:List Int):zl5 (.sl fr 1 (iL xs)) = (xs.length <= 9223372036854775807):=by simp [zl5,zCj,iL]
theorem zck (fr:Bool) (xs:List Int):zp9 (.sl fr 1 (iL xs)) = (xs.length <= 9223372036854775807):=by simp [zp9,zl5,iL]
theorem zcv (x y:PV):zp9 (.ag [x,y]) = (zl5 x/\zl5 y):=by simp [zp9]
theorem AC.go [zae] {f:FuncId} {fn:Func} {c:Code} {rs:List ResultVar} {args:List PV} {rv:RV} (hT:T.Ok P) (hm:P.follows .mixedOrders = true) (hf:P.funcs[f]? = some fn) (hname:(fn.name == "runtime.NumGoroutine") = false)
 (hb:fn.body = some c) (hr:fn.results.toList = rs) (hfit:(fits fn.ntmps c && decide (args.length <= fn.ntmps) && decide (fn.results.toList.length <= 4)) = true) (h:zEE args->cwp P T c (zMj T rs rv) (St.init args)):AC P f args rv:=by
 subst hr
 refine ⟨⟨fn,hf,hname,by rw [hb];rfl⟩,fun w vals hphi hv=>?_⟩
 exact (AC.of hT hm hf hname hb hfit (h (zux hv))).2 w vals hphi hv
theorem AM.go [zae] {f:FuncId} {fn:Func} {c:Code} {rs:List ResultVar} {args:List PV} {ins:List LR} {outs:List (List PV)} {x:Value} (hT:T.Ok P) (hm:P.follows .mixedOrders = true) (hf:P.funcs[f]? = some fn) (hname:(fn.name == "runtime.NumGoroutine") = false)
 (hb:fn.body = some c) (hr:fn.results.toList = rs) (hfit:(fits fn.ntmps c && decide (args.length <= fn.ntmps) && decide (fn.results.toList.length <= 4)) = true) (hi:∀ r ∈ ins,zbs r.c) (ho:∀ c ∈ outs,zbs c) (hlen:outs.length = ins.length)
 (h:(∀ r ∈ ins,r.c.length <= 9223372036854775807 * r.sz)->cwp P T c (zNc T rs ins outs x) (St.initM args ins)):AM P f args ins outs x:=by
 subst hr
 exact AM.of hT hm hf hname hb hfit hi ho hlen h
theorem zaU [zae] (xs:List Int):zbs (iL xs):=by have:=zAC xs;unfold zbs;rw [this];trivial
theorem zqb [zae] (xs:List ByteArray):zbs (sL xs):=by have:=zGP xs;unfold zbs;rw [this];trivial
theorem zeH:∀ c ∈ ([]:List (List PV)),zbs c:=fun c h=>by cases h
theorem zcE {a:List PV} {l:List (List PV)} (h1:zbs a) (h2:∀ c ∈ l,zbs c):∀ c ∈ a :: l,zbs c:=fun c hc=>by
 rcases List.mem_cons.1 hc with rfl | hc
 ·exact h1
 ·exact h2 c hc
theorem zeI:∀ r ∈ ([]:List LR),zbs r.c:=fun c h=>by cases h
theorem zcF {e sz:Nat} {a:List PV} {l:List LR} (h1:zbs a) (h2:∀ r ∈ l,zbs r.c):∀ r ∈ (⟨e,sz,a⟩:LR) :: l,zbs r.c:=fun c hc=>by
 rcases List.mem_cons.1 hc with rfl | hc
 ·exact h1
 ·exact h2 c hc
theorem zkL (args:List PV) (ins:List LR) (i:Nat):(St.initM args ins).sl i = args.getD i .junk:=(rfl)
theorem zkM (args:List PV) (ins:List LR) (i:Nat):(St.initM args ins).rw i = inR ins i:=(rfl)
theorem zxF (ins:List LR) (k:Nat) (h:k < 1000000):inR ins k = ⟨0,.dead⟩:=by
 unfold inR;rw [if_neg (by show ¬ (1000000 <= k);omega)]
theorem zFb [zae] (e sz:Nat) (c:List PV) (l:List LR):inR (⟨e,sz,c⟩ :: l) 1000000 = ⟨1,.sli e sz false c⟩:=ztk (ins:=⟨e,sz,c⟩ :: l) (i:=0) rfl
theorem zFc [zae] (r:LR) (e sz:Nat) (c:List PV) (l:List LR):inR (r :: ⟨e,sz,c⟩ :: l) 1000001 = ⟨1,.sli e sz false c⟩:=ztk (ins:=r :: ⟨e,sz,c⟩ :: l) (i:=1) rfl
theorem zxG (rs:List ResultVar) (ins:List LR) (outs:List (List PV)) (x:Value):zNc T rs ins outs x .ret s = zIz T s rs ins outs x:=(rfl)
theorem zsT (rs:List ResultVar) (ins:List LR) (outs:List (List PV)) (x:Value):zNc T rs ins outs x .norm s = zIz T s rs ins outs x:=(rfl)
theorem zxH (r:Nat) (ins:List LR) (outs:List (List PV)) (x:Value):zIz T s [.tmp r] ins outs x = (zuz s.rw 0 ins outs/\s.sl r = .v x):=(rfl)
theorem zsU (ins:List LR) (outs:List (List PV)) (x:Value):zIz T s [] ins outs x = (zuz s.rw 0 ins outs/\x = .tuple #[]):=(rfl)
theorem zCk (rw:Nat->Row) (e sz:Nat) (a c:List PV):zuz rw 0 [⟨e,sz,a⟩] [c] = (rw 1000000 = ⟨1,.sli e sz false c⟩):=by
 show (rw 1000000 = ⟨1,.sli e sz false c⟩/\True) = _
 rw [and_true]
theorem zCl (rw:Nat->Row) (e sz e' sz':Nat) (a c a' c':List PV):zuz rw 0 [⟨e,sz,a⟩,⟨e',sz',a'⟩] [c,c'] = (rw 1000000 = ⟨1,.sli e sz false c⟩/\rw 1000001 = ⟨1,.sli e' sz' false c'⟩):=by
 show (rw 1000000 = ⟨1,.sli e sz false c⟩/\rw 1000001 = ⟨1,.sli e' sz' false c'⟩/\True) = _
 rw [and_true]
theorem zqc (j v e sz:Nat) (a c:List PV):s.wrote [(j,v)] [⟨e,sz,a⟩] [c] = s.row j ⟨v,.sli e sz false c⟩:=by
 unfold St.wrote St.row zeg
 congr 1
 funext k
 by_cases h:k = j
 ·subst h;simp
 ·have:(j == k) = false:=by simp;exact fun e=>h e.symm
  simp [h,this]
theorem zqd [zae] (j v e sz j' v' e' sz':Nat) (a c a' c':List PV) (hj:j ≠ j'):s.wrote [(j,v),(j',v')] [⟨e,sz,a⟩,⟨e',sz',a'⟩] [c,c'] = (s.row j ⟨v,.sli e sz false c⟩).row j' ⟨v',.sli e' sz' false c'⟩:=by
 have hn:([(j,v),(j',v')].map (·.1)).Nodup:=by simpa using hj
 unfold St.wrote St.row
 congr 1
 funext k
 show zeg s.rw [(j,v),(j',v')] [⟨e,sz,a⟩,⟨e',sz',a'⟩] [c,c'] k = if k = j' then ⟨v',.sli e' sz' false c'⟩ else if k = j then ⟨v,.sli e sz false c⟩ else s.rw k
 by_cases h:k = j'
 ·subst h
  rw [if_pos rfl]
  exact zml hn (i:=1) (j:=(k,v')) (r:=⟨e',sz',a'⟩) (c:=c') rfl rfl rfl
 ·rw [if_neg h]
  by_cases h':k = j
  ·subst h'
   rw [if_pos rfl]
   exact zml hn (i:=0) (j:=(k,v)) (r:=⟨e,sz,a⟩) (c:=c) rfl rfl rfl
  ·rw [if_neg h']
   exact zpb (by simp [h,h'])
theorem AG.go [zae] {f:FuncId} {fn:Func} {c:Code} {rs:List ResultVar} {args:List PV} {R0:Nat->Row} {post:(Nat->Row)->PV->Prop} (hT:T.Ok P) (hm:P.follows .mixedOrders = true) (hf:P.funcs[f]? = some fn) (hname:(fn.name == "runtime.NumGoroutine") = false)
 (hb:fn.body = some c) (hr:fn.results.toList = rs) (hfit:(fits fn.ntmps c && decide (args.length <= fn.ntmps) && decide (fn.results.toList.length <= 4)) = true)
 (h:zEE args->(∀ k,zjR (R0 k).kind)->∀ s:St,(∀ i,s.sl i = args.getD i .junk)->(∀ k,s.rw k = R0 k)->cwp P T c (zHA T rs post) s):AG P f args R0 post:=by
 subst hr
 refine ⟨⟨fn,hf,hname,by rw [hb];rfl⟩,fun w M E vals hw hR hv=>?_⟩
 exact (AG.of hT hm hf hname hb hfit (fun hl=>h (zux hv) hl _ (fun _=>rfl) (fun _=>rfl))).2 w M E vals hw hR hv
theorem zxI (rs:List ResultVar) (post:(Nat->Row)->PV->Prop):zHA T rs post .ret s = zEF T s rs post:=(rfl)
theorem zsV (rs:List ResultVar) (post:(Nat->Row)->PV->Prop):zHA T rs post .norm s = zEF T s rs post:=(rfl)
theorem zxJ (r:Nat) (post:(Nat->Row)->PV->Prop):zEF T s [.tmp r] post = post s.rw (s.sl r):=(rfl)
theorem zsW (post:(Nat->Row)->PV->Prop):zEF T s [] post = post s.rw (.tup []):=(rfl)
theorem zsX (a:Nat) (t:TypeId) (post:(Nat->Row)->PV->Prop):zEF T s [.cell a t] post = zue s.rw (s.sl a) (kk fun m c off=>ldK T t m c off (kk fun p=>post s.rw p)):=(rfl)
theorem zxK (r r2:Nat) (post:(Nat->Row)->PV->Prop):zEF T s [.tmp r,.tmp r2] post = post s.rw (.tup [s.sl r,s.sl r2]):=(rfl)
theorem zai {n:Int} (h:-9223372036854775808 <= n) (h2:n <= 9223372036854775807):IntKind.i64.wrap n = n:=by
 simp [IntKind.wrap,IntKind.bits,IntKind.signed]
 omega
section
variable {Kp:PV->Prop}
theorem zl6 [zae] (k:Nat) (p:List Nat) {t:TypeId} (o:Nat) (h0:(T t).k.agg = false) (h1:0 < (T t).size):ldK T t .asis (zaJ k p) o Kp = (o < p.length/\Kp (.own (sid k (p.getD o 0)) 1)):=by
 have:=zf1 (T:=T) (Kp:=Kp) (fun j=>PV.own (sid k j) 1) 0 p (t:=t) (m:=.asis) o (fun j=>.own (sid k j) 1) (fun _=>rfl) h0 h1
 exact this
theorem zNa (k:Nat) (p:List Nat) (i j:Nat):spl (zaJ k p) i [.own (sid k j) 1] = zaJ k (p.set i j):=by
 show (zaJ k p).set i (.own (sid k j) 1) = _
 unfold zaJ;rw [List.map_set]
theorem zFd (k:Nat) (p:List Nat) (j:Nat):zaJ k p ++ [.own (sid k j) 1] = zaJ k (p ++ [j]):=by simp [zaJ]
theorem zij (k v e e2:Nat) (p:List Nat) (rows:List (List PV)):(s.tabbed k v e e2 p rows).sl = s.sl:=(rfl)
theorem zgA [zae] (k v e e2:Nat) (p:List Nat) (rows:List (List PV)):(s.tabbed k v e e2 p rows).rw k = ⟨v,.tab e (zaJ k p)⟩:=ziq
theorem zik [zae] (k v e e2:Nat) (p:List Nat) (rows:List (List PV)) (j:Nat) (h:(j % 1000 == k % 1000) = false):(s.tabbed k v e e2 p rows).rw j = s.rw j:=by
 have h:=beq_eq_false_iff_ne.1 h
 refine zje (fun e=>h (by rw [e])) fun x _ e=>h ?_
 rw [e,zbN];omega
theorem zsY (k v:Nat) (dst:Option Nat):TR.self.next s k v dst K = K (s.put dst (.own k v)):=(rfl)
theorem zo1 (k v:Nat) (dst:Option Nat) (x:Value):(TR.selfx x).next s k v dst K = K (s.put dst (.tup [.own k v,.v x])):=(rfl)
theorem zCm (k v d:Nat) (r:RV):(TR.rv r).next s k v (some d) K = (d % 1000 ≠ k % 1000/\K (zal s d r)):=(rfl)
theorem zsZ (k v:Nat) (r:RV):(TR.rv r).next s k v none K = K s:=(rfl)
theorem zkN (args:List PV) (e e2:Nat) (rows:List (List PV)) (i:Nat):(St.initT args e e2 rows).sl i = args.getD i .junk:=(rfl)
theorem zkO (args:List PV) (e e2:Nat) (rows:List (List PV)) (i:Nat):(St.initT args e e2 rows).rw i = inT e e2 rows i:=(rfl)
theorem zqe [zae] (e e2:Nat) (rows:List (List PV)) (k:Nat) (h:k < 1000000):inT e e2 rows k = ⟨0,.dead⟩:=zHH h
theorem ze2 [zae] (e e2:Nat) (rows:List (List PV)):inT e e2 rows 1000000 = ⟨1,.tab e (zaJ 1000000 (List.range rows.length))⟩:=zga
theorem zxL (rs:List ResultVar) (e e2 n:Nat) (rows:List (List PV)) (res:TR):zNb T rs e e2 n rows res .ret s = zHB T s rs e e2 n rows res:=(rfl)
theorem zs0 (rs:List ResultVar) (e e2 n:Nat) (rows:List (List PV)) (res:TR):zNb T rs e e2 n rows res .norm s = zHB T s rs e e2 n rows res:=(rfl)
def zxM (rw:Nat->Row) (e e2 n:Nat) (rows:List (List PV)):Prop:=∃ q:List Nat,TabIs rw lent 1 e e2 q rows/\q.Perm (List.range n)
theorem zs1 (r e e2 n:Nat) (rows:List (List PV)):zHB T s [.tmp r] e e2 n rows .self = (zxM s.rw e e2 n rows/\s.sl r = .own 1000000 1):=(rfl)
theorem zo2 (r r2 e e2 n:Nat) (rows:List (List PV)) (x:Value):zHB T s [.tmp r,.tmp r2] e e2 n rows (.selfx x) = (zxM s.rw e e2 n rows/\s.sl r = .own 1000000 1/\s.sl r2 = .v x):=(rfl)
theorem zCn (rs:List ResultVar) (e e2 n:Nat) (rows:List (List PV)) (r:RV):zHB T s rs e e2 n rows (.rv r) = (zxM s.rw e e2 n rows/\zyH T s rs r):=(rfl)
theorem zf4 [zae] (d e e2:Nat) (rows:List (List PV)):(zal s d (.tb e e2 rows)).sl d = .own d ((s.rw d).ver + 1):=by
 unfold zal
 rw [zau]
 rfl
theorem zdS [zae] (d e e2 t:Nat) (rows:List (List PV)) (h:t ≠ d):(zal s d (.tb e e2 rows)).sl t = s.sl t:=by
 unfold zal
 rw [zaG _ _ _ _ h]
theorem zf5 [zae] (d e e2 j:Nat) (rows:List (List PV)) (h:(j % 1000 == d % 1000) = false):(zal s d (.tb e e2 rows)).rw j = s.rw j:=by
 have h:=beq_eq_false_iff_ne.1 h
 unfold zal
 rw [zec]
 show zaw s.rw d (leaves (.tb e e2 rows)) 0 j = s.rw j
 rw [zc7]
 refine zcN _ _ _ _ _ fun i _ e=>h ?_
 rw [e];unfold zak;omega
theorem zs2 [zae] (d e e2:Nat) (rows:List (List PV)) {i:Nat} (h:i < rows.length):(zal s d (.tb e e2 rows)).rw (sid d i) = ⟨(s.rw (sid d i)).ver + 1,.sli e2 1 false (rows.getD i [])⟩:=by
 have hrw:(zal s d (.tb e e2 rows)).rw = zjf s.rw d (zbt s.rw d (leaves (.tb e e2 rows)) 0) 0:=by
  unfold zal;rw [zec];exact zc7 _ _ _ _
 have hl:(leaves (.tb e e2 rows)).length = rows.length + 1:=by rw [leaves];simp
 have h1:i + 1 < (zbt s.rw d (leaves (.tb e e2 rows)) 0).length:=by rw [zbg,hl];omega
 have h2:i + 1 < (leaves (.tb e e2 rows)).length:=by rw [hl];omega
 have:=zdV s.rw d (zbt s.rw d (leaves (.tb e e2 rows)) 0) 0 (i + 1) h1
 rw [Nat.zero_add] at this
 rw [hrw]
 show zjf s.rw d _ 0 (zak d (i + 1)) = _
 rw [this,zdP _ _ _ _ _ h2,Nat.zero_add]
 have h3:(leaves (.tb e e2 rows))[i + 1] = (e2,some 1,rows[i]):=by simp [leaves]
 rw [h3]
 simp [zbV,sid,List.getD,h]
theorem zeJ [zae] (d e e2:Nat) (rows:List (List PV)):(zal s d (.tb e e2 rows)).rw d = ⟨(s.rw d).ver + 1,.tab e (zaX s.rw d 0 rows.length)⟩:=by
 have hrw:(zal s d (.tb e e2 rows)).rw = zjf s.rw d (zbt s.rw d (leaves (.tb e e2 rows)) 0) 0:=by
  unfold zal;rw [zec];exact zc7 _ _ _ _
 have hl:(leaves (.tb e e2 rows)).length = rows.length + 1:=by rw [leaves];simp
 have h1:0 < (zbt s.rw d (leaves (.tb e e2 rows)) 0).length:=by rw [zbg,hl];omega
 have h2:0 < (leaves (.tb e e2 rows)).length:=by rw [hl];omega
 have:=zdV s.rw d (zbt s.rw d (leaves (.tb e e2 rows)) 0) 0 0 h1
 rw [Nat.zero_add] at this
 rw [hrw]
 have hd:zak d 0 = d:=by unfold zak;omega
 have e1:zjf s.rw d (zbt s.rw d (leaves (.tb e e2 rows)) 0) 0 d = zjf s.rw d (zbt s.rw d (leaves (.tb e e2 rows)) 0) 0 (zak d 0):=by rw [hd]
 rw [e1,this,zdP _ _ _ _ _ h2]
 have h3:(leaves (.tb e e2 rows))[0] = (e,none,List.replicate rows.length .junk):=by simp [leaves]
 rw [h3]
 simp [zbV,hd]
theorem zl7 [zae] (d j:Nat):zak d (0 + 1 + j) = sid d j:=by rw [zbN];unfold zak;omega
theorem zs3 [zae] (d e e2:Nat) (rows:List (List PV)) (h:∀ i,i < rows.length->(s.rw (sid d i)).ver = 0):TabIs (zal s d (.tb e e2 rows)).rw d ((s.rw d).ver + 1) e e2 (List.range rows.length) rows:=by
 refine ⟨?_,sp,fun i hi=>?_⟩
 ·rw [zeJ]
  congr 2
  unfold zaX zaJ
  refine List.map_congr_left fun j hj=>?_
  rw [zl7,h j (List.mem_range.1 hj)]
 ·have hi':i < rows.length:=by simpa using hi
  have:(List.range rows.length).getD i 0 = i:=by simp [List.getD,hi']
  rw [this,zs2 d e e2 rows hi',h i hi']
theorem zuy [zae] (d e e2:Nat) (rows:List (List PV)):(zaX s.rw d 0 rows.length).map (znK (zal s d (.tb e e2 rows)).rw) = rows.map fun r=>.sl false 1 r:=by
 refine List.ext_getElem (by simp [zaX]) fun i a b=>?_
 have hi:i < rows.length:=by simpa using b
 have h2:rows.getD i [] = rows[i]:=by simp [List.getD,hi]
 rw [List.getElem_map,List.getElem_map]
 simp only [zaX,List.getElem_map,List.getElem_range]
 rw [zl7]
 simp only [znK,zs2 d e e2 rows hi,if_true,h2]
end
theorem zil (k:Nat) (p:List Nat):(s.killed k p).sl = s.sl:=(rfl)
theorem zim [zae] (k:Nat) (p:List Nat) (j:Nat) (h:(j % 1000 == k % 1000) = false):(s.killed k p).rw j = s.rw j:=by
 have h:=beq_eq_false_iff_ne.1 h
 refine zcw fun hj=>h ?_
 rcases hj with rfl | ⟨x,_,rfl⟩
 ·rfl
 ·exact zdx _ _
theorem zl8 [zae] {rw0:Nat->Row} (d e e2:Nat) (rows:List (List PV)) (h:∀ i,s.rw (sid d i) = rw0 (sid d i)):(zaX rw0 d 0 rows.length).map (znK (zal s d (.tb e e2 rows)).rw) = rows.map fun r=>.sl false 1 r:=by
 have:zaX rw0 d 0 rows.length = zaX s.rw d 0 rows.length:=by
  unfold zaX
  refine List.map_congr_left fun j _=>?_
  rw [zl7,h j]
 rw [this,zuy]
theorem zHz (M:List (List Int)):(M.map iL).map (fun r=>PV.sl false 1 r) = iLL M:=by
 unfold iLL
 rw [List.map_map];rfl
def znE [zae] {α:Type} (I:α->St->Prop) (μ:α->Nat) (m:Nat) (s2:St):Prop:=∃ x' s3,Wk s2 s3/\I x' s3/\μ x' < m
theorem zab [zae] {α:Type} {I:α->St->Prop} {μ:α->Nat} {m:Nat} (x':α) (h:I x' s) (hm:μ x' < m:=by first | omega | (simp only;omega) | (dsimp only;omega) | (show _ < _;simp;omega)):znE I μ m s:=⟨x',s,Wk.refl s,h,hm⟩
theorem zag [zae] {α:Type} (I:α->St->Prop) (μ:α->Nat) (x0:α) {b:(AX->St->Prop)->St->Prop} {u:Dm b} {v:Dm Q} (h0:I x0 s) (h:∀ x s1,I x s1->b (AX.seq (znE I μ (μ x)) Q) s1):zs8 (kk b u) (kk Q v) s :=
 ⟨α,I,μ,⟨x0,s,Wk.refl s,h0⟩,h⟩
end
end Go.Abs
