/- DERIVED by an AI agent. Rules by which simp carries a text out, head first. No program in sight. -/
import Derived.Test.YtpnknaaehcljoaaGreatA10
namespace Go.Abs
set_option linter.unusedSimpArgs false
set_option linter.unusedVariables false
def iL (xs:List Int):List PV:=xs.map fun n=>.v (.int .i64 n)
def kL (k:IntKind) (xs:List Int):List PV:=xs.map fun n=>.v (.int k n)
def sL (xs:List ByteArray):List PV:=xs.map fun n=>.v (.string n)
def bL (xs:List Bool):List PV:=xs.map fun n=>.v (.bool n)
def iLL (xss:List (List Int)):List PV:=xss.map fun r=>.sl false 1 (iL r)
abbrev zaN (xs:List Int):PV:=.sl false 1 (iL xs)
abbrev zIt (xs:List ByteArray):PV:=.sl false 1 (sL xs)
abbrev zvj (xss:List (List Int)):PV:=.sl false 1 (iLL xss)
abbrev int (n:Int):PV:=.v (.int .i64 n)
abbrev u64 (n:Int):PV:=.v (.int .u64 n)
abbrev bool (b:Bool):PV:=.v (.bool b)
abbrev str (s:ByteArray):PV:=.v (.string s)
theorem zor (xs:List Int):(iL xs).length = xs.length:=by simp [iL]
theorem zos (k:IntKind) (xs:List Int):(kL k xs).length = xs.length:=by simp [kL]
theorem zot (xs:List ByteArray):(sL xs).length = xs.length:=by simp [sL]
theorem zou (xs:List Bool):(bL xs).length = xs.length:=by simp [bL]
theorem zhs (xs:List (List Int)):(iLL xs).length = xs.length:=by simp [iLL]
theorem zov (xs ys:List Int):iL xs ++ iL ys = iL (xs ++ ys):=by simp [iL]
theorem zwx (xs:List Int) (n:Int):iL xs ++ [.v (.int .i64 n)] = iL (xs ++ [n]):=by simp [iL]
theorem zow (k:IntKind) (xs ys:List Int):kL k xs ++ kL k ys = kL k (xs ++ ys):=by simp [kL]
theorem zwy (k:IntKind) (xs:List Int) (n:Int):kL k xs ++ [.v (.int k n)] = kL k (xs ++ [n]):=by simp [kL]
theorem zwz (xs:List ByteArray) (n:ByteArray):sL xs ++ [.v (.string n)] = sL (xs ++ [n]):=by simp [sL]
theorem zox (xs ys:List ByteArray):sL xs ++ sL ys = sL (xs ++ ys):=by simp [sL]
theorem znh (xs:List (List Int)) (r:List Int):iLL xs ++ [.sl false 1 (iL r)] = iLL (xs ++ [r]):=by simp [iLL]
theorem zlJ (xs ys:List (List Int)):iLL xs ++ iLL ys = iLL (xs ++ ys):=by simp [iLL]
theorem zwA (xs:List Int) (n:Nat):(iL xs).take n = iL (xs.take n):=by simp [iL]
theorem zwB (xs:List Int) (n:Nat):(iL xs).drop n = iL (xs.drop n):=by simp [iL]
theorem zwC (xs:List ByteArray) (n:Nat):(sL xs).take n = sL (xs.take n):=by simp [sL]
theorem zwD (xs:List ByteArray) (n:Nat):(sL xs).drop n = sL (xs.drop n):=by simp [sL]
theorem zsr (xs:List (List Int)) (n:Nat):(iLL xs).take n = iLL (xs.take n):=by simp [iLL]
theorem zss (xs:List (List Int)) (n:Nat):(iLL xs).drop n = iLL (xs.drop n):=by simp [iLL]
theorem zBA (xs:List Int) (i:Nat) (n:Int):spl (iL xs) i [.v (.int .i64 n)] = iL (xs.set i n):=by simp [spl,iL]
theorem zBB (a p:PV) (c:List PV):spl (a :: c) 0 [p] = p :: c:=by simp [spl]
theorem zBC (a b p:PV) (c:List PV):spl (a :: b :: c) 1 [p] = a :: p :: c:=by simp [spl]
theorem zBD (a b d p:PV) (c:List PV):spl (a :: b :: d :: c) 2 [p] = a :: b :: p :: c:=by simp [spl]
theorem zBE (a b d e p:PV) (c:List PV):spl (a :: b :: d :: e :: c) 3 [p] = a :: b :: d :: p :: c:=by simp [spl]
theorem zBF (a b p q:PV):spl [a,b] 0 [p,q] = [p,q]:=by simp [spl]
theorem zBG (a b c d p q:PV):spl [a,b,c,d] 0 [p,q] = [p,q,c,d]:=by simp [spl]
theorem zwE (a b c d p q:PV):spl [a,b,c,d] 2 [p,q] = [a,b,p,q]:=by simp [spl]
theorem zBH (a b c d p q r s:PV):spl [a,b,c,d] 0 [p,q,r,s] = [p,q,r,s]:=by simp [spl]
theorem zBI (xs:List Bool) (i:Nat) (n:Bool):spl (bL xs) i [.v (.bool n)] = bL (xs.set i n):=by simp [spl,bL]
theorem zwF (xs:List (List Int)) (i:Nat) (r:List Int):spl (iLL xs) i [.sl false 1 (iL r)] = iLL (xs.set i r):=by simp [spl,iLL]
theorem zcN (n:Nat) (x:Int):List.replicate n (PV.v (.int .i64 x)) = iL (List.replicate n x):=by simp [iL]
theorem zeL (n:Nat) (x:Bool):List.replicate n (PV.v (.bool x)) = bL (List.replicate n x):=by simp [bL]
theorem zwG (xs:List Int):(∀ p ∈ iL xs,isV p = true) = True:=by simp [iL,isV,Value.oneCell']
theorem zFg (k:IntKind) (xs:List Int):(∀ p ∈ kL k xs,isV p = true) = True:=by simp [kL,isV,Value.oneCell']
theorem zFh (xs:List ByteArray):(∀ p ∈ sL xs,isV p = true) = True:=by simp [sL,isV,Value.oneCell']
theorem zAr (xs:List (List Int)):(∀ p ∈ iLL xs,zrd p = true) = True:=by simp [iLL,zrd]
theorem zwH (k:IntKind) (n:Int):(Value.int k n).oneCell' = true:=(rfl)
theorem zst (b:Bool):(Value.bool b).oneCell' = true:=(rfl)
theorem zlK (b:ByteArray):(Value.string b).oneCell' = true:=(rfl)
theorem zoy (a:Option Addr) (l c:Nat):(Value.slice a l c).oneCell' = true:=(rfl)
theorem ziZ (s:St) (p:PV):s.put none p = s:=(rfl)
theorem zeB (s:St) (d:Option Nat) (p:PV):(s.put d p).rw = s.rw:=by cases d <;> rfl
theorem zsu (s:St) (k:Nat) (r:Row):(s.row k r).sl = s.sl:=(rfl)
theorem zaF (s:St) (k:Nat) (r:Row):(s.row k r).rw k = r:=by simp [St.row]
theorem zas (s:St) (k j:Nat) (r:Row) (h:j ≠ k):(s.row k r).rw j = s.rw j:=by simp [St.row,h]
theorem zgq (s:St) (ks:List Nat):(s.freeze ks).sl = s.sl:=(rfl)
theorem zgr (s:St) (ks:List Nat) (k:Nat):(s.freeze ks).rw k = if k ∈ ks then frz (s.rw k) else s.rw k:=(rfl)
theorem zni (ver:Nat) (e sz:Nat) (fz:Bool) (c:List PV):frz ⟨ver,.sli e sz fz c⟩ = ⟨ver,.sli e sz true c⟩:=(rfl)
theorem zsv (s:St) (t:Nat):s.ev (.tmp t) = s.sl t:=(rfl)
theorem zwI (s:St) (f:FuncId):s.ev (.func f) = .clo f []:=(rfl)
theorem zsw (s:St) (k:IntKind) (n:Int):s.ev (.const (.int k n)) = .v (.int k n):=(rfl)
theorem znj (s:St) (b:Bool):s.ev (.const (.bool b)) = .v (.bool b):=(rfl)
theorem zgs (s:St) (b:ByteArray):s.ev (.const (.string b)) = .v (.string b):=(rfl)
theorem zsx (s:St) (a:Option Addr) (l c:Nat):s.ev (.const (.slice a l c)) = .v (.slice a l c):=(rfl)
theorem zBJ (s:St) (cs:List Value):s.ev (.const (.agg ⟨cs⟩)) = .ag (cs.map PV.v):=(rfl)
theorem znk (args:List PV) (i:Nat):(St.init args).sl i = args.getD i .junk:=(rfl)
theorem znl (args:List PV) (i:Nat):(St.init args).rw i = ⟨0,.dead⟩:=(rfl)
theorem zgt {α:Type} (a:α) (l:List α) (d:α):(a :: l).getD 0 d = a:=(rfl)
theorem zgu {α:Type} (a:α) (l:List α) (i:Nat) (d:α):(a :: l).getD (i + 1) d = l.getD i d:=(rfl)
theorem zi0 {α:Type} (i:Nat) (d:α):([]:List α).getD i d = d:=(rfl)
theorem zi1 (s:St) (d:Nat) (kd:RK) (p:Nat→PV):zcQ s d kd p = (s.row d ⟨(s.rw d).ver + 1,kd⟩).put (some d) (p ((s.rw d).ver + 1)):=(rfl)
theorem zi2 (s:St) (d k:Nat) (kd:RK):zc4 s d k kd = (s.row k ⟨(s.rw k).ver + 1,kd⟩).put (some d) (.own k ((s.rw k).ver + 1)):=(rfl)
structure Dm {α:Type} (K:α):Type
def kk {α:Type} (K:α) (_:Dm K:=⟨⟩):α:=K
theorem zAs {α β:Type} (K:α→β) (u:Dm K) (x:α):kk K u x = K x:=(rfl)
def evK (p:PV) (K:PV→Prop):Prop:=K p
theorem zFi (v:Value) (K:PV→Prop):evK (.v v) K = K (.v v):=(rfl)
theorem zBK (fr:Bool) (z:Nat) (c:List PV) (K:PV→Prop):evK (.sl fr z c) K = K (.sl fr z c):=(rfl)
theorem zwJ (j v:Nat) (K:PV→Prop):evK (.own j v) K = K (.own j v):=(rfl)
theorem zwK (j v o:Nat) (K:PV→Prop):evK (.ref j v o) K = K (.ref j v o):=(rfl)
theorem zsy (fr:Bool) (c:List PV) (o:Nat) (K:PV→Prop):evK (.eref fr c o) K = K (.eref fr c o):=(rfl)
theorem zBL (c:List PV) (K:PV→Prop):evK (.ag c) K = K (.ag c):=(rfl)
theorem zwL (c:List PV) (K:PV→Prop):evK (.tup c) K = K (.tup c):=(rfl)
theorem zwM (f:FuncId) (c:List PV) (K:PV→Prop):evK (.clo f c) K = K (.clo f c):=(rfl)
theorem zsz (K:PV→Prop):evK .junk K = K .junk:=(rfl)
section
variable {P:Program} {T:Tab} {ops:Array Oper} {Q:AX→St→Prop} {s:St}
def zAt (p:PV) (A B:Prop):Prop:=match p with | .v (.bool b)=>(b = true→A)∧(b = false→B) | _=>False
def c1 (b:Bool) (A B:Prop):Prop:=(b = true→A)∧(b = false→B)
def c2 (b:Bool) (A B:Prop):Prop:=(b = true→A)∧(b = false→B)
def d1 (b:Bool) (A B:Prop):Prop:=(b = false→A)∧(b = true→B)
def d2 (b:Bool) (A B:Prop):Prop:=(b = false→A)∧(b = true→B)
theorem zFj (A B:Prop):c1 true (kk A) (kk B) = A:=by simp [c1,kk]
theorem zFk (A B:Prop):c1 false (kk A) (kk B) = B:=by simp [c1,kk]
theorem zFl (A B:Prop):c2 true (kk A) (kk B) = A:=by simp [c2,kk]
theorem zFm (A B:Prop):c2 false (kk A) (kk B) = B:=by simp [c2,kk]
theorem zFn (A B:Prop):d1 true (kk A) (kk B) = B:=by simp [d1,kk]
theorem zFo (A B:Prop):d1 false (kk A) (kk B) = A:=by simp [d1,kk]
theorem zFp (A B:Prop):d2 true (kk A) (kk B) = B:=by simp [d2,kk]
theorem zFq (A B:Prop):d2 false (kk A) (kk B) = A:=by simp [d2,kk]
theorem zBM (b:Bool) (A B:Prop):c1 b A B = c2 b A B:=(rfl)
theorem zBN (b:Bool) (A B:Prop):c2 b (kk A) (kk B) = ((b = true→A)∧(b = false→B)):=(rfl)
theorem zBO (b:Bool) (A B:Prop):d1 b A B = d2 b A B:=(rfl)
theorem zBP (b:Bool) (A B:Prop):d2 b (kk A) (kk B) = ((b = false→A)∧(b = true→B)):=(rfl)
theorem zlL (b:Bool) (A B:Prop):zAt (.v (.bool b)) A B = c1 b A B:=(rfl)
theorem zsA [zah]:cwp P T .skip Q s = Q .norm s:=(rfl)
theorem zh2 [zah] (id:Nat):cwp P T (.region id ops false) Q s = zrA P T ops ops.toList s (Q .norm):=(rfl)
theorem zh3 [zah] (id:Nat):cwp P T (.region id ops true) Q s = (zkq ops = true∧zeR P T ops [] ops.toList s (Q .norm)):=(rfl)
theorem zwN [zah] (x y:Code):cwp P T (.seq x y) Q s = cwp P T x (AX.seq (cwp P T y Q) Q) s:=(rfl)
theorem zsB [zah] (c:Operand) (x y:Code):cwp P T (.cond c x y) Q s = zAt (s.ev c) (kk (cwp P T x Q s)) (kk (cwp P T y Q s)):=(rfl)
theorem zoz [zah] (id:Nat) (x:Code):cwp P T (.block id x) Q s = cwp P T x (AX.blk id Q) s:=(rfl)
theorem zsC [zah] (x:Code):cwp P T (.loop x) Q s = zqf (kk (cwp P T x)) (kk Q) s:=(rfl)
theorem zsD [zah] (id:Nat):cwp P T (.exit id) Q s = Q (.exit id) s:=(rfl)
theorem zwO [zah]:cwp P T .ret Q s = Q .ret s:=(rfl)
theorem zoA [zah] (l:Nat):cwp P T (.label l) Q s = Q .norm s:=(rfl)
variable {K:St→Prop}
theorem zsE:AX.seq K Q .norm s = K s:=(rfl)
theorem zwP:AX.seq K Q .ret s = Q .ret s:=(rfl)
theorem zsF (id:Nat):AX.seq K Q (.exit id) s = Q (.exit id) s:=(rfl)
theorem zsG (id:Nat):AX.blk id Q .norm s = Q .norm s:=(rfl)
theorem zwQ (id:Nat):AX.blk id Q .ret s = Q .ret s:=(rfl)
theorem zgv (id:Nat):AX.blk id Q (.exit id) s = Q .norm s:=by simp [AX.blk]
theorem zjB (id i:Nat) (h:i ≠ id):AX.blk id Q (.exit i) s = Q (.exit i) s:=by simp [AX.blk,h]
theorem zsH (rs:List ResultVar) (rv:RV):zGs T rs rv .ret s = zvq T s rs rv:=(rfl)
theorem zoB (rs:List ResultVar) (rv:RV):zGs T rs rv .norm s = zvq T s rs rv:=(rfl)
theorem zsI [zah]:zrA P T ops [] s K = K s:=(rfl)
theorem zjC:∀ (n:Nat) (p:Nat→Bool),(∀ k,k < n→p k = true)→zcK n p = true:=by
 intro n
 induction n with
 | zero=>intro p _;rfl
 | succ n ih=>intro p h;simp only [zcK,Bool.and_eq_true];exact ⟨h n (by omega),ih p fun k hk=>h k (by omega)⟩
def clr (e:Ent):List Ent→Bool | []=>true | e' :: l=>!zmJ e' e && clr e l
def zgw:List Ent→Bool | []=>true | e :: l=>clr e l && zgw l
theorem zro:∀ {l:List Ent},zgw l = true→l.Pairwise fun a b=>zmJ b a = false:=by
 intro l
 induction l with
 | nil=>intro _;exact .nil
 | cons e l ih =>
   intro h
   simp only [zgw,Bool.and_eq_true] at h
   refine List.pairwise_cons.2 ⟨?_,ih h.2⟩
   have:∀ l':List Ent,clr e l' = true→∀ b ∈ l',zmJ b e = false:=by
    intro l'
    induction l' with
    | nil=>intro _ b hb;cases hb
    | cons x l' ih' =>
      intro h b hb
      simp only [clr,Bool.and_eq_true,Bool.not_eq_true'] at h
      rcases List.mem_cons.1 hb with rfl | hb
      ·exact h.1
      ·exact ih' h.2 b hb
   exact this l h.1
theorem zvk [zah] {l:List Ent} (h:zgw l = true):zlp ops l.reverse = true:=by
 have hp:l.reverse.Pairwise fun a b=>zmJ a b = false:=List.pairwise_reverse.2 (zro h)
 unfold zlp
 refine zjC _ _ fun j hj=>zjC _ _ fun i hi=>?_
 split
 ·rename_i a b ha hb
  obtain ⟨h1,rfl⟩:=List.getElem?_eq_some_iff.1 ha
  obtain ⟨h2,rfl⟩:=List.getElem?_eq_some_iff.1 hb
  have:=List.pairwise_iff_getElem.1 hp i j h1 h2 hi
  rw [this];rfl
 ·rfl
def zwR (ops:Array Oper) (acc:List Ent) (A:Prop):Prop:=zlp ops acc.reverse = true∧A
def lnK (b:Bool) (ops:Array Oper) (acc:List Ent) (A:Prop):Prop:=match b with | true=>A | false=>zlp ops acc.reverse = true∧A
theorem zoC [zah] (acc:List Ent) (A:Prop):zwR ops acc (kk A) = lnK (zgw acc) ops acc (kk A):=by
 unfold zwR lnK
 cases h:zgw acc with
 | true=>simp [zvk h,kk]
 | false=>rfl
theorem zFr (acc:List Ent) (A:Prop):lnK true ops acc (kk A) = A:=(rfl)
theorem zFs (acc:List Ent) (A:Prop):lnK false ops acc (kk A) = (zlp ops acc.reverse = true∧A):=(rfl)
theorem zBQ:zgw [] = true:=(rfl)
theorem zwS (e:Ent) (l:List Ent):zgw (e :: l) = (clr e l && zgw l):=(rfl)
theorem zwT (e:Ent):clr e [] = true:=(rfl)
theorem zsJ (e e':Ent) (l:List Ent):clr e (e' :: l) = (!zmJ e' e && clr e l):=(rfl)
def zok (l:List Nat) (t:Tc):Bool:=l.any t.has
theorem zsK (t:Tc):zok [] t = false:=(rfl)
theorem zoD (k:Nat) (l:List Nat) (t:Tc):zok (k :: l) t = (t.has k || zok l t):=(rfl)
theorem zwU (k:Nat):(Tc.ids []).has k = false:=(rfl)
theorem zsL (a:Nat) (l:List Nat) (k:Nat):(Tc.ids (a :: l)).has k = (a % 1000 == k % 1000 || (Tc.ids l).has k):=(rfl)
theorem zwV (d k:Nat):(Tc.res d).has k = (k % 1000 == d % 1000):=(rfl)
theorem zBR (a b:List Nat):zmJ ⟨a,.ids []⟩ ⟨b,.ids []⟩ = false:=by
 have e:∀ l:List Nat,l.any (Tc.ids []).has = false:=fun l=>by
  rw [List.any_eq_false];intro x _;simp [Tc.has]
 simp [zmJ,e,zfK]
theorem zwW (a b t u:List Nat):zmJ ⟨a,.ids t⟩ ⟨b,.ids u⟩ = (zok a (.ids u) || (zok b (.ids t) || zok t (.ids u))):=by simp [zmJ,zok,zfK,Bool.or_assoc]
theorem zwX (a b t:List Nat) (d:Nat):zmJ ⟨a,.ids t⟩ ⟨b,.res d⟩ = (zok a (.res d) || (zok b (.ids t) || zok t (.res d))):=by simp [zmJ,zok,zfK,Bool.or_assoc]
theorem zwY (a b t:List Nat) (d:Nat):zmJ ⟨a,.res d⟩ ⟨b,.ids t⟩ = (zok a (.ids t) || (zok b (.res d) || zok t (.res d))):=by simp [zmJ,zok,zfK,Bool.or_assoc]
theorem zwZ (a b:List Nat) (d d':Nat):zmJ ⟨a,.res d⟩ ⟨b,.res d'⟩ = (zok a (.res d') || (zok b (.res d) || (d % 1000 == d' % 1000))):=by simp [zmJ,zok,zfK,Bool.or_assoc]
theorem zoE [zah] (acc:List Ent):zeR P T ops acc [] s K = zwR ops acc (kk (K s)):=(rfl)
def gK (d:Option Nat) (want:Bool) (s:St) (A B:Nat→Prop) (N:Prop):Prop :=
 match d with
 | some d=>(match s.sl d with | .v (.bool b)=>(b = want→A d)∧(b = !want→B d) | .v (.tuple _)=>N | _=>False)
 | none=>False
def gK1 (want:Bool) (p:PV) (A B N:Prop):Prop:=match p with | .v (.bool b)=>(b = want→A)∧(b = !want→B) | .v (.tuple _)=>N | _=>False
theorem zw0 (d:Nat) (want:Bool) (A B:Nat→Prop) (N:Prop):gK (some d) want s A B N = gK1 want (s.sl d) (kk (A d)) (kk (B d)) N:=(rfl)
theorem zoF (want:Bool) (A B N:Prop):gK1 want (.v undef) A B (kk N) = N:=(rfl)
theorem zsM (b:Bool) (A B N:Prop):gK1 true (.v (.bool b)) A B N = c1 b A B:=(rfl)
theorem zoG (b:Bool) (A B N:Prop):gK1 false (.v (.bool b)) A B N = d1 b A B:=(rfl)
theorem zoH [zah] {dst:Option Nat} {op:Op} {ty:TypeId} {pos:String} {af:Array Edge} {os:List Oper} :
 zrA P T ops (⟨dst,op,ty,pos,af,none⟩ :: os) s K = zea P T s ⟨dst,op,ty,pos,af,none⟩ (fun s2=>zrA P T ops os s2 K):=(rfl)
theorem zlM [zah] {dst:Option Nat} {op:Op} {ty:TypeId} {pos:String} {af:Array Edge} {j:Nat} {want:Bool} {os:List Oper} :
 zrA P T ops (⟨dst,op,ty,pos,af,some (j,want)⟩ :: os) s K = gK ((ops[j]?).bind (·.dst)) want s
  (kk fun d=>zea P T (s.put (some d) (.v (.bool want))) ⟨dst,op,ty,pos,af,some (j,want)⟩ (fun s2=>zrA P T ops os s2 K))
  (kk fun d=>zrA P T ops os ((s.put (some d) (.v (.bool !want))).put dst (.v undef)) K) (kk (zrA P T ops os (s.put dst (.v undef)) K)):=(rfl)
theorem zBS (l:List Oper) (j:Nat):((⟨l⟩:Array Oper)[j]?) = l[j]?:=by simp
theorem getElem?_zero {α:Type} (a:α) (l:List α):(a :: l)[0]? = some a:=(rfl)
theorem getElem?_succ {α:Type} (a:α) (l:List α) (i:Nat):(a :: l)[i + 1]? = l[i]?:=(rfl)
theorem zoI (o:Oper):(some o).bind (·.dst) = o.dst:=(rfl)
theorem zlN [zah] {dst:Option Nat} {op:Op} {ty:TypeId} {pos:String} {af:Array Edge} {os:List Oper} (acc:List Ent) :
 zeR P T ops acc (⟨dst,op,ty,pos,af,none⟩ :: os) s K = dK P T s ⟨dst,op,ty,pos,af,none⟩ (kk fun e s2=>zeR P T ops (e :: acc) os s2 K):=(rfl)
theorem zjD [zah] {dst:Option Nat} {op:Op} {ty:TypeId} {pos:String} {af:Array Edge} {j:Nat} {want:Bool} {os:List Oper} (acc:List Ent) :
 zeR P T ops acc (⟨dst,op,ty,pos,af,some (j,want)⟩ :: os) s K = gK ((ops[j]?).bind (·.dst)) want s
  (kk fun d=>dK P T (s.put (some d) (.v (.bool want))) ⟨dst,op,ty,pos,af,some (j,want)⟩ (kk fun e s2=>zeR P T ops (e :: acc) os s2 K))
  (kk fun d=>zeR P T ops (⟨[],.ids []⟩ :: acc) os ((s.put (some d) (.v (.bool !want))).put dst (.v undef)) K) (kk (zeR P T ops (⟨[],.ids []⟩ :: acc) os (s.put dst (.v undef)) K)):=(rfl)
def zc1 (l:List PV) (acc:List Nat) (Kn:List Nat→Prop):Prop:=Kn (acc ++ l.flatMap zeg)
def zol (l:List PV) (acc:List Nat) (Kn:List Nat→Prop):Prop:=Kn (acc ++ l.flatMap zCx)
section
variable (l:List PV) (acc:List Nat) (Kn:List Nat→Prop)
theorem zsN:zc1 [] acc (kk Kn) = Kn acc:=by simp [zc1,kk]
theorem zBT (x:Value):zc1 (.v x :: l) acc (kk Kn) = zc1 l acc (kk Kn):=(rfl)
theorem zw1 (fr:Bool) (z:Nat) (c:List PV):zc1 (.sl fr z c :: l) acc (kk Kn) = zc1 l acc (kk Kn):=(rfl)
theorem zoJ (fr:Bool) (c:List PV) (o:Nat):zc1 (.eref fr c o :: l) acc (kk Kn) = zc1 l acc (kk Kn):=(rfl)
theorem zsO (f:FuncId) (c:List PV):zc1 (.clo f c :: l) acc (kk Kn) = zc1 l acc (kk Kn):=(rfl)
theorem zsP (c:List PV):zc1 (.tup c :: l) acc (kk Kn) = zc1 l acc (kk Kn):=(rfl)
theorem zoK:zc1 (.junk :: l) acc (kk Kn) = zc1 l acc (kk Kn):=(rfl)
theorem zsQ (k v:Nat):zc1 (.own k v :: l) acc (kk Kn) = zc1 l (acc ++ [k % 1000]) (kk Kn):=by simp [zc1,kk,zeg,List.flatMap_cons]
theorem zsR (k v o:Nat):zc1 (.ref k v o :: l) acc (kk Kn) = zc1 l (acc ++ [k % 1000]) (kk Kn):=by simp [zc1,kk,zeg,List.flatMap_cons]
theorem zw2 (c:List PV):zc1 (.ag c :: l) acc (kk Kn) = zol c acc (kk fun acc'=>zc1 l acc' (kk Kn)):=by simp [zc1,zol,kk,zeg,List.flatMap_cons]
theorem zsS:zol [] acc (kk Kn) = Kn acc:=by simp [zol,kk]
theorem zBU (x:Value):zol (.v x :: l) acc (kk Kn) = zol l acc (kk Kn):=(rfl)
theorem zw3 (fr:Bool) (z:Nat) (c:List PV):zol (.sl fr z c :: l) acc (kk Kn) = zol l acc (kk Kn):=(rfl)
theorem zoL (fr:Bool) (c:List PV) (o:Nat):zol (.eref fr c o :: l) acc (kk Kn) = zol l acc (kk Kn):=(rfl)
theorem zsT (f:FuncId) (c:List PV):zol (.clo f c :: l) acc (kk Kn) = zol l acc (kk Kn):=(rfl)
theorem zsU (k v:Nat):zol (.own k v :: l) acc (kk Kn) = zol l (acc ++ [k % 1000]) (kk Kn):=by simp [zol,kk,zCx,List.flatMap_cons]
theorem zsV (k v o:Nat):zol (.ref k v o :: l) acc (kk Kn) = zol l (acc ++ [k % 1000]) (kk Kn):=by simp [zol,kk,zCx,List.flatMap_cons]
end
def zeF (rw:Nat→Row) (n:Nat) (l:List PV) (acc:List Nat) (Kn:List Nat→Prop):Prop:=Kn (acc ++ l.flatMap (zd0 rw n))
def zjE (r:Row) (rw:Nat→Row) (n:Nat) (acc:List Nat) (Kn:List Nat→Prop):Prop:=Kn (acc ++ (match r.kind with | .box _ c=>c.flatMap (zd0 rw n) | _=>[]))
def zjF (r:Row) (k:Nat) (acc:List Nat) (Kn:List Nat→Prop):Prop:=Kn (acc ++ (match r.kind with | .tab _ c=>zru k c | _=>[]))
section
variable (rw:Nat→Row) (n:Nat) (l:List PV) (acc:List Nat) (Kn:List Nat→Prop)
theorem zsW:zeF rw n [] acc (kk Kn) = Kn acc:=by simp [zeF,kk]
theorem zoM:zeF rw 0 l acc (kk Kn) = Kn acc:=by
 have:l.flatMap (zd0 rw 0) = []:=by simp [zd0]
 unfold zeF kk
 rw [this,List.append_nil]
theorem zBV (x:Value):zeF rw (n + 1) (.v x :: l) acc (kk Kn) = zeF rw (n + 1) l acc (kk Kn):=by simp [zeF,zd0,List.flatMap_cons]
theorem zw4 (fr:Bool) (z:Nat) (c:List PV):zeF rw (n + 1) (.sl fr z c :: l) acc (kk Kn) = zeF rw (n + 1) l acc (kk Kn):=by simp [zeF,zd0,List.flatMap_cons]
theorem zoN (fr:Bool) (c:List PV) (o:Nat):zeF rw (n + 1) (.eref fr c o :: l) acc (kk Kn) = zeF rw (n + 1) l acc (kk Kn):=by simp [zeF,zd0,List.flatMap_cons]
theorem zoO:zeF rw (n + 1) (.junk :: l) acc (kk Kn) = zeF rw (n + 1) l acc (kk Kn):=by simp [zeF,zd0,List.flatMap_cons]
theorem zsX (k v:Nat):zeF rw (n + 1) (.own k v :: l) acc (kk Kn) = zjF (rw k) k (acc ++ [k % 1000]) (kk fun acc'=>zeF rw (n + 1) l acc' (kk Kn)):=by
 simp only [zeF,zjF,kk,List.flatMap_cons]
 rw [zd0]
 cases (rw k).kind <;> simp
theorem zlO (k ver e z:Nat) (fz:Bool) (c:List PV):zjF ⟨ver,.sli e z fz c⟩ k acc (kk Kn) = Kn acc:=by simp [zjF,kk]
theorem zlP (k ver:Nat):zjF ⟨ver,.nil⟩ k acc (kk Kn) = Kn acc:=by simp [zjF,kk]
theorem zlQ (k ver e:Nat) (c:List PV):zjF ⟨ver,.tab e c⟩ k acc (kk Kn) = Kn (acc ++ zru k c):=(rfl)
theorem zjG [zah] (k:Nat) (p:List Nat):zru k (zay k p) = []:=by
 unfold zru zay
 rw [List.flatMap_eq_nil_iff]
 intro q hq
 obtain ⟨j,_,rfl⟩:=List.mem_map.1 hq
 simp [zaa]
theorem zoP (rw':Nat→Row) (k m:Nat):zru k (zaP rw' k 0 m) = []:=by
 unfold zru zaP
 rw [List.flatMap_eq_nil_iff]
 intro q hq
 obtain ⟨j,_,rfl⟩:=List.mem_map.1 hq
 simp [zaj]
theorem zw5 (c:List PV):zeF rw (n + 1) (.ag c :: l) acc (kk Kn) = zeF rw n c acc (kk fun acc'=>zeF rw (n + 1) l acc' (kk Kn)):=by simp [zeF,zd0,List.flatMap_cons,kk]
theorem zsY (f:FuncId) (c:List PV):zeF rw (n + 1) (.clo f c :: l) acc (kk Kn) = zeF rw n c acc (kk fun acc'=>zeF rw (n + 1) l acc' (kk Kn)):=by simp [zeF,zd0,List.flatMap_cons,kk]
theorem zsZ (k v o:Nat):zeF rw (n + 1) (.ref k v o :: l) acc (kk Kn) = zjE (rw k) rw n (acc ++ [k % 1000]) (kk fun acc'=>zeF rw (n + 1) l acc' (kk Kn)):=by
 simp only [zeF,zjE,kk,List.flatMap_cons]
 rw [zd0]
 cases (rw k).kind <;> simp
theorem zlR (ver:Nat) (t:TypeId) (c:List PV):zjE ⟨ver,.box t c⟩ rw n acc (kk Kn) = zeF rw n c acc (kk Kn):=(rfl)
theorem zlS (ver e z:Nat) (fz:Bool) (c:List PV):zjE ⟨ver,.sli e z fz c⟩ rw n acc (kk Kn) = Kn acc:=by simp [zjE,kk]
theorem zlT (ver:Nat):zjE ⟨ver,.nil⟩ rw n acc (kk Kn) = Kn acc:=by simp [zjE,kk]
end
section
variable {dst:Option Nat} {ty:TypeId} {pos:String} {af:Array Edge} {g:Option (Nat × Bool)}
theorem zs0 [zah] (x:Operand):opK P T s ⟨dst,.move x,ty,pos,af,g⟩ K = evK (s.ev x) (kk fun p=>K (s.put dst p)):=(rfl)
theorem zfC [zah] (t:Nat):opK P T s ⟨dst,.assign (.tmp t),ty,pos,af,g⟩ K = evK (s.sl t) (kk fun p=>K (s.put dst p)):=(rfl)
theorem zfD [zah] (k:IntKind) (n:Int):opK P T s ⟨dst,.assign (.const (.int k n)),ty,pos,af,g⟩ K = K (s.put dst (.v (.int k n))):=(rfl)
theorem zeM [zah] (b:Bool):opK P T s ⟨dst,.assign (.const (.bool b)),ty,pos,af,g⟩ K = K (s.put dst (.v (.bool b))):=(rfl)
theorem zdW [zah] (b:ByteArray):opK P T s ⟨dst,.assign (.const (.string b)),ty,pos,af,g⟩ K = K (s.put dst (.v (.string b))):=(rfl)
theorem zfE [zah] (cs:List Value):opK P T s ⟨dst,.assign (.const (.agg ⟨cs⟩)),ty,pos,af,g⟩ K = K (s.put dst (.ag (cs.map PV.v))):=(rfl)
def nilRow (T:Tab) (k:TK):RK:=match k with | .sli e=>.sli e (T e).size false [] | _=>.nil
theorem zlU (e:TypeId):nilRow T (.sli e) = .sli e (T e).size false []:=(rfl)
theorem zfF [zah] (d:Nat):opK P T s ⟨some d,.assign (.const (.slice none 0 0)),ty,pos,af,g⟩ K = K (zcQ s d (nilRow T (T ty).k) fun v=>.own d v):=(rfl)
theorem zs1 [zah] (c x y:Operand):opK P T s ⟨dst,.pick c x y,ty,pos,af,g⟩ K = zAt (s.ev c) (kk (evK (s.ev x) (kk fun p=>K (s.put dst p)))) (kk (evK (s.ev y) (kk fun p=>K (s.put dst p)))):=(rfl)
theorem zw6 [zah] (op:BinOp) (t t2:TypeId) (x y:Operand):opK P T s ⟨dst,.binOp op t x y t2,ty,pos,af,g⟩ K = zcV T op t (s.ev x) (s.ev y) (kk fun p=>K (s.put dst p)):=(rfl)
theorem zBW [zah] (op:UnOp) (t:TypeId) (x:Operand):opK P T s ⟨dst,.unOp op t x,ty,pos,af,g⟩ K = unK op (s.ev x) (kk fun p=>K (s.put dst p)):=(rfl)
theorem zjH [zah] (a b:TypeId) (x:Operand):opK P T s ⟨dst,.convert a b x,ty,pos,af,g⟩ K = zgY T s.rw a b (s.ev x) (kk fun p=>K (s.put dst p)):=(rfl)
theorem zs2 [zah] (t:TypeId) (x:Operand):opK P T s ⟨dst,.load t x,ty,pos,af,g⟩ K = zre s.rw (s.ev x) (kk fun m c off=>ldK T t m c off (kk fun p=>K (s.put dst p))):=(rfl)
theorem zgx [zah] (t:TypeId) (x:Operand) (f:Nat):opK P T s ⟨dst,.fieldAddr t x f,ty,pos,af,g⟩ K =
 zdI T t f (kk fun o _=>zkF (s.ev x) = true∧zdh s.rw (s.ev x) (kk (evK (zd2 (s.ev x) o) (kk fun p=>K (s.put dst p))))):=(rfl)
def agK (p:PV) (K:List PV→Prop):Prop:=match p with | .ag c=>K c | _=>False
theorem zBX (c:List PV) (Kc:List PV→Prop):agK (.ag c) Kc = Kc c:=(rfl)
def zGB (p:PV) (K:List PV→Prop):Prop:=match p with | .tup c=>K c | _=>False
theorem zs3 (c:List PV) (Kc:List PV→Prop):zGB (.tup c) Kc = Kc c:=(rfl)
theorem zjI [zah] (t:TypeId) (x:Operand) (f:Nat):opK P T s ⟨dst,.field t x f,ty,pos,af,g⟩ K =
 agK (s.ev x) (kk fun c=>zdI T t f (kk fun o ft=>ldK T ft .asis c o (kk fun p=>K (s.put dst p)))):=by
 show zdI T t f (fun o ft=>(match s.ev x with | .ag c=>ldK T ft .asis c o fun p=>K (s.put dst p) | _=>False)) = _
 unfold zdI agK kk
 cases s.ev x
 case ag c=>rfl
 all_goals
  refine propext ⟨fun h=>?_,fun h=>h.elim⟩
  obtain ⟨_,h⟩:=h
  split at h
  ·split at h
   ·exact h.2.elim
   ·exact h.elim
  ·exact h.elim
theorem zgy [zah] (t:TypeId) (x i:Operand):opK P T s ⟨dst,.indexAddr t x i,ty,pos,af,g⟩ K = zbp T s.rw t (s.ev x) (s.ev i) (kk fun p=>K (s.put dst p)):=(rfl)
def zs4 (T:Tab) (t:TypeId) (x i:PV) (K:PV→Prop):Prop:=0 < (T t).size∧(match (T t).k,x,i with
 | .str,.v (.string s),.v (.int _ n)=>0 ≤ n∧n.toNat < s.size∧K (.v (.int .u8 ((s.data.toList.getD n.toNat 0).toNat:Int)))
 | .arr len e,.ag c,.v (.int _ n)=>0 ≤ n∧n < len∧ldK T e .asis c (n.toNat * (T e).size) K
 | _,_,_=>False)
theorem zoQ [zah] (t:TypeId) (x i:Operand):opK P T s ⟨dst,.index t x i,ty,pos,af,g⟩ K = zs4 T t (s.ev x) (s.ev i) (kk fun p=>K (s.put dst p)):=(rfl)
theorem zjJ [zah] (x:Operand) (i:Nat):opK P T s ⟨dst,.extract x i,ty,pos,af,g⟩ K = zGB (s.ev x) (kk fun ps=>i < ps.length∧evK (ps.getD i .junk) (kk fun p=>K (s.put dst p))):=(rfl)
theorem zh4 [zah] (x:Operand):opK P T s ⟨dst,.nilCheck x,ty,pos,af,g⟩ K = zdh s.rw (s.ev x) (kk (evK (s.ev x) (kk fun p=>K (s.put dst p)))):=(rfl)
theorem zh5 [zah] (f:FuncId) (caps:Array Operand):opK P T s ⟨dst,.makeFunc (.func f) #[] caps,ty,pos,af,g⟩ K = K (s.put dst (.clo f (caps.toList.map s.ev))):=by
 show (#[] = (#[]:Array Operand)∧K (s.put dst (.clo f (caps.toList.map s.ev)))) = _
 simp
theorem zw7 [zah] (x:Operand) (t:TypeId):opK P T s ⟨dst,.call ⟨.builtin .len,#[x],#[t]⟩,ty,pos,af,g⟩ K = zyV T s.rw t (s.ev x) (kk fun p=>K (s.put dst p)):=(rfl)
theorem zw8 [zah] (x y:Operand) (ts:Array TypeId):opK P T s ⟨dst,.call ⟨.builtin .max,#[x,y],ts⟩,ty,pos,af,g⟩ K = zcF true (s.ev x) (s.ev y) (kk fun p=>K (s.put dst p)):=(rfl)
theorem zw9 [zah] (x y:Operand) (ts:Array TypeId):opK P T s ⟨dst,.call ⟨.builtin .min,#[x,y],ts⟩,ty,pos,af,g⟩ K = zcF false (s.ev x) (s.ev y) (kk fun p=>K (s.put dst p)):=(rfl)
theorem zlV [zah] (d:Nat) (x y:Operand) (t t2:TypeId):opK P T s ⟨some d,.call ⟨.builtin .append,#[x,y],#[t,t2]⟩,ty,pos,af,g⟩ K = zky T s d t t2 (s.ev x) (s.ev y) (kk K):=(rfl)
def zz7 (p:PV) (K:FuncId→List PV→Prop):Prop:=match p with | .clo g caps=>K g caps | _=>False
theorem zs5 (g:FuncId) (c:List PV) (Kc:FuncId→List PV→Prop):zz7 (.clo g c) Kc = Kc g c:=(rfl)
def zlg [zah] (P:Program) (f:FuncId) (args:List PV) (K:RV→Prop) (M:Prop):Prop:=(∃ rv,AC P f args rv∧K rv) ∨ M
theorem zaf [zah] {f:FuncId} {args:List PV} {Kr:RV→Prop} {u:Dm Kr} {rv:RV} {M:Prop} (h:AC P f args rv) (hk:Kr rv):zlg P f args (kk Kr u) M:=.inl ⟨rv,h,hk⟩
def zxa [zah] (P:Program) (f:FuncId) (args raw:List PV) (dst:Option Nat) (s:St) (K:St→Prop):Prop:=zId P s f raw dst K ∨ zGw P s f raw dst K ∨ zDh P s f args dst K ∨ askG P s f raw dst K
theorem zCY [zah] {f:FuncId} {args raw lent:List PV} {k v e e2:Nat} {p:List Nat} {rows rows':List (List PV)} {res:TR} {Ka:RV→Prop} {dst:Option Nat} {us:Dm s} {u:Dm K} (h:AT P f args e e2 rows rows' res)
 (hg:GiveL [(k,v)] raw args) (ht:TabIs s.rw k v e e2 p rows) (hn:p.Nodup)
 (hk:∀ p':List Nat,p'.Perm p→res.next (s.tabbed k v e e2 p' rows') k v dst K):zlg P f lent Ka (zxa P f lent raw dst (kk s us) (kk K u)) :=
 .inr (.inr (.inl ⟨k,v,e,e2,p,rows,rows',args,res,h,hg,ht,hn,hk⟩))
theorem zCZ [zah] {f:FuncId} {args raw lent:List PV} {R0:Nat→Row} {post:(Nat→Row)→PV→Prop} {Ka:RV→Prop} {dst:Option Nat} {us:Dm s} {u:Dm K} (h:AG P f args R0 post) (rho:Nat→Option Nat) (Ln:Nat→Prop) (hl:GvL rho Ln R0 s.rw args raw) (hg:Give rho Ln R0 s.rw)
 (hk:∀ R1 p,post R1 p→∃ (rho1:Nat→Option Nat) (nv:Nat→Nat) (nl:Bool),Back rho rho1 R1 nv nl Ln R0 s.rw∧∀ S:St,After s S dst rho1 nv nl R1 p→K S):zlg P f lent Ka (zxa P f lent raw dst (kk s us) (kk K u)) :=
 .inr (.inr (.inr (.inr ⟨args,R0,post,rho,Ln,h,hl,hg,hk⟩)))
def zht (s:St) (l:List Operand):List PV:=l.map fun x=>zcp s.rw zfx (s.ev x)
theorem zoR:zht s [] = []:=(rfl)
theorem zlW (x:Operand) (l:List Operand):zht s (x :: l) = zcp s.rw 3 (s.ev x) :: zht s l:=(rfl)
def zxb (s:St) (l:List Operand):List PV:=l.map s.ev
theorem zs6:zxb s [] = []:=(rfl)
theorem zoS (x:Operand) (l:List Operand):zxb s (x :: l) = s.ev x :: zxb s l:=(rfl)
theorem zAu [zah] (f:Operand) (args:List Operand) (Kr:RV→Prop):zel P s.rw s.ev f ⟨args⟩ Kr = zz7 (s.ev f) (kk fun g caps=>zlg P g (zht s args ++ caps.map (zcp s.rw 3)) (kk Kr) False):=by
 unfold zel zz7 zlg
 cases s.ev f <;> first | rfl | simp [kk,zht,zfx]
theorem zs7 [zah] (f:Operand) (args:List Operand) (Kr:RV→Prop) (dst:Option Nat):((zel P s.rw s.ev f ⟨args⟩ Kr ∨ zyE P s f ⟨args⟩ dst K) ∨ (match s.ev f with
 | .clo g caps=>zGw P s g (args.map s.ev ++ caps) dst K ∨ zDh P s g ((args.map fun x=>zcp s.rw zfx (s.ev x)) ++ caps.map (zcp s.rw zfx)) dst K ∨ askG P s g (args.map s.ev ++ caps) dst K
 | _=>False)) =
 zz7 (s.ev f) (kk fun g caps=>zlg P g (zht s args ++ caps.map (zcp s.rw 3)) (kk Kr) (zxa P g (zht s args ++ caps.map (zcp s.rw 3)) (zxb s args ++ caps) dst (kk s) (kk K))):=by
 unfold zel zyE zz7
 cases s.ev f <;> first | (simp;done) | skip
 unfold kk zlg zxa
 exact propext or_assoc
theorem zoT [zah] (d:Nat) (f:Operand) (args:List Operand) (ts:Array TypeId):zea P T s ⟨some d,.call ⟨.value f,⟨args⟩,ts⟩,ty,pos,af,g⟩ K =
 zz7 (s.ev f) (kk fun g caps=>zlg P g (zht s args ++ caps.map (zcp s.rw 3)) (kk fun rv=>K (zal s d rv)) (zxa P g (zht s args ++ caps.map (zcp s.rw 3)) (zxb s args ++ caps) (some d) (kk s) (kk K))):=zs7 (P:=P) f args _ _
theorem zfG [zah] (f:Operand) (args:List Operand) (ts:Array TypeId):zea P T s ⟨none,.call ⟨.value f,⟨args⟩,ts⟩,ty,pos,af,g⟩ K =
 zz7 (s.ev f) (kk fun g caps=>zlg P g (zht s args ++ caps.map (zcp s.rw 3)) (kk fun _=>K s) (zxa P g (zht s args ++ caps.map (zcp s.rw 3)) (zxb s args ++ caps) none (kk s) (kk K))):=zs7 (P:=P) f args _ _
theorem zoU [zah] (b:Builtin) (args:Array Operand) (ts:Array TypeId) (h:(match b with | .append=>false | _=>true) = true):zea P T s ⟨dst,.call ⟨.builtin b,args,ts⟩,ty,pos,af,g⟩ K = opK P T s ⟨dst,.call ⟨.builtin b,args,ts⟩,ty,pos,af,g⟩ K:=by
 cases b <;> first | rfl | cases h
theorem zoV [zah] (d:Nat) (t:TypeId):opK P T s ⟨some d,.alloc t,ty,pos,af,g⟩ K = (0 < (T t).size∧K (zcQ s d (.box t ((T t).zero.map PV.v)) fun v=>.ref d v 0)):=(rfl)
theorem zxc [zah] (d:Nat) (t:TypeId) (x:Operand):opK P T s ⟨some d,.box t x,ty,pos,af,g⟩ K = zaZ s.rw (s.ev x) (kk fun c=>K (zcQ s d (.box t c) fun v=>.ref d v 0)):=(rfl)
def evs (s:St) (l:List (Nat × Operand)):List PV:=l.map fun x=>s.ev x.2
theorem zxd:evs s [] = []:=(rfl)
theorem zs8 (n:Nat) (x:Operand) (l:List (Nat × Operand)):evs s ((n,x) :: l) = s.ev x :: evs s l:=(rfl)
def zxe (T:Tab) (s:St) (d:Nat) (kd:TK) (z n:Nat) (parts:List (Nat × Operand)) (K:St→Prop):Prop :=
 0 < z∧match kd with
 | .sli e=>0 < (T e).size∧n = parts.length∧znE 0 parts = true∧n * (T e).size ≤ 16777216 ∧
  zlr s.rw (T e).size (evs s parts) fun c f=>d ∉ f∧K (((s.freeze f).row d ⟨(s.rw d).ver + 1,.sli e (T e).size false c⟩).put (some d) (.own d ((s.rw d).ver + 1)))
 | _=>False
theorem zfH [zah] (d:Nat) (t:TypeId) (n:Nat) (parts:List (Nat × Operand)):opK P T s ⟨some d,.buildSlice t n ⟨parts⟩,ty,pos,af,g⟩ K = zxe T s d (T t).k (T t).size n parts (kk K):=(rfl)
def lit (c:List PV):List PV:=c
def zFt (a:List Int) (c:List PV):List PV:=iL a ++ c
def zFu (a:List ByteArray) (c:List PV):List PV:=sL a ++ c
def zFv (a:List Bool) (c:List PV):List PV:=bL a ++ c
def zFw (a:List (List Int)) (c:List PV):List PV:=iLL a ++ c
theorem znm:lit [] = []:=(rfl)
theorem znn (n:Int) (l:List PV):lit (.v (.int .i64 n) :: l) = zFt [n] l:=(rfl)
theorem zno (n:ByteArray) (l:List PV):lit (.v (.string n) :: l) = zFu [n] l:=(rfl)
theorem zi3 (n:Bool) (l:List PV):lit (.v (.bool n) :: l) = zFv [n] l:=(rfl)
theorem zs9 (n:List Int) (l:List PV):lit (.sl false 1 (iL n) :: l) = zFw [n] l:=(rfl)
theorem zi4 (a:List Int):zFt a [] = iL a:=List.append_nil _
theorem zi5 (a:List ByteArray):zFu a [] = sL a:=List.append_nil _
theorem zi6 (a:List Bool):zFv a [] = bL a:=List.append_nil _
theorem zi7 (a:List (List Int)):zFw a [] = iLL a:=List.append_nil _
theorem zgz (a:List Int) (n:Int) (l:List PV):zFt a (.v (.int .i64 n) :: l) = zFt (a ++ [n]) l:=by simp [zFt,iL]
theorem zgA (a:List ByteArray) (n:ByteArray) (l:List PV):zFu a (.v (.string n) :: l) = zFu (a ++ [n]) l:=by simp [zFu,sL]
theorem zgB (a:List Bool) (n:Bool) (l:List PV):zFv a (.v (.bool n) :: l) = zFv (a ++ [n]) l:=by simp [zFv,bL]
theorem zgC (a:List (List Int)) (n:List Int) (l:List PV):zFw a (.sl false 1 (iL n) :: l) = zFw (a ++ [n]) l:=by simp [zFw,iLL]
theorem zlX (d e n:Nat) (parts:List (Nat × Operand)) (h2:(T e).size = 1) :
 zxe T s d (.sli e) 1 n parts K = (n = parts.length∧znE 0 parts = true∧n ≤ 16777216∧zlr s.rw 1 (evs s parts) (kk fun c f=>d ∉ f∧K (((s.freeze f).row d ⟨(s.rw d).ver + 1,.sli e 1 false (lit c)⟩).put (some d) (.own d ((s.rw d).ver + 1))))):=by
 unfold zxe kk
 simp only [h2,Nat.one_pos,true_and,Nat.mul_one]
 rfl
theorem zoW (i:Nat):znE i [] = true:=(rfl)
theorem zlY (i j:Nat) (x:Operand) (l:List (Nat × Operand)):znE i ((j,x) :: l) = (j == i && znE (i + 1) l):=(rfl)
theorem zoX (rw:Nat→Row) (es:Nat) (Kp:List PV→List Nat→Prop):zlr rw es [] (kk Kp) = Kp [] []:=(rfl)
theorem zlZ (rw:Nat→Row) (es:Nat) (p:PV) (ps:List PV) (Kp:List PV→List Nat→Prop):zlr rw es (p :: ps) (kk Kp) = zcP rw p (kk fun c f=>c.length = es∧zlr rw es ps (kk fun cs fs=>Kp (c ++ cs) (f ++ fs))):=(rfl)
theorem zoY [zah] (t:TypeId) (ad x:Operand):opK P T s ⟨none,.store t ad x,ty,pos,af,g⟩ K = zqw T s t (s.ev ad) (s.ev x) (kk K):=by
 show ((none:Option Nat) = none∧zqw T s t (s.ev ad) (s.ev x) K) = _
 simp [kk]
def zC0 (T:Tab) (t:TypeId) (l c:PV) (K:TypeId→List PV→Prop):Prop :=
 match (T t).k,l,c with
 | .sli e,.v (.int _ nl),.v (.int _ nc)=>0 < (T t).size∧(T e).size = 1∧(match (T e).zero with
  | [z]=>0 ≤ nl∧nl ≤ nc∧((T e).bytes:Int) * nc ≤ 281474976710656∧nc ≤ 9223372036854775807∧K e (List.replicate nl.toNat (.v z))
  | _=>False)
 | _,_,_=>False
theorem zta [zah] (d:Nat) (t:TypeId) (l c:Operand):opK P T s ⟨some d,.makeSlice t l c,ty,pos,af,g⟩ K = zC0 T t (s.ev l) (s.ev c) (kk fun e cs=>K (zcQ s d (.sli e 1 false cs) fun v=>.own d v)):=by
 unfold zC0 kk
 simp only [opK]
 generalize (T t).k = a
 generalize s.ev l = b
 generalize s.ev c = e
 cases a <;> first | rfl | skip
 cases b <;> first | rfl | skip
 rename_i v
 cases v <;> first | rfl | skip
 cases e <;> first | rfl | skip
 rename_i v
 cases v <;> rfl
def zC1 (T:Tab) (kd:TK) (z:Nat) (l c:PV) (K:TypeId→List PV→Prop):Prop :=
 match kd,l,c with
 | .sli e,.v (.int _ nl),.v (.int _ nc)=>0 < z∧(T e).size = 1∧(match (T e).zero with
  | [z]=>0 ≤ nl∧nl ≤ nc∧((T e).bytes:Int) * nc ≤ 281474976710656∧nc ≤ 9223372036854775807∧K e (List.replicate nl.toNat (.v z))
  | _=>False)
 | _,_,_=>False
theorem zxf (t:TypeId) (l c:PV) (Kc:TypeId→List PV→Prop):zC0 T t l c Kc = zC1 T (T t).k (T t).size l c Kc:=(rfl)
def zC2 (zs:List Value) (K:Value→Prop):Prop:=match zs with | [z]=>K z | _=>False
theorem zoZ (z:Value) (Kz:Value→Prop):zC2 [z] Kz = Kz z:=(rfl)
theorem zo0 {e:TypeId} {k1 k2:IntKind} {nl nc:Int} {Kc:TypeId→List PV→Prop} (h2:(T e).size = 1) :
 zC1 T (.sli e) 1 (.v (.int k1 nl)) (.v (.int k2 nc)) Kc = zC2 (T e).zero (kk fun z=>0 ≤ nl∧nl ≤ nc∧((T e).bytes:Int) * nc ≤ 281474976710656∧nc ≤ 9223372036854775807∧Kc e (List.replicate nl.toNat (.v z))):=by
 unfold zC1 zC2 kk
 simp only [h2,Nat.one_pos,true_and]
def zEq (T:Tab) (s:St) (t:TypeId) (x:PV) (lo hi mx:Option Operand) (K:List Nat→PV→Prop):Prop :=
 match x with
 | .own k ver=>(match (s.rw k).kind with
  | .sli _ _ false _=>zbx T (s.freeze [k]).rw s.ev t (.own k ver) lo hi mx (K [k])
  | _=>zbx T s.rw s.ev t (.own k ver) lo hi mx (K []))
 | x=>zbx T s.rw s.ev t x lo hi mx (K [])
theorem zo1 [zah] (t:TypeId) (x:Operand) (lo hi mx:Option Operand):opK P T s ⟨dst,.slice t x lo hi mx,ty,pos,af,g⟩ K = zEq T s t (s.ev x) lo hi mx (kk fun fz p=>K ((s.freeze fz).put dst p)):=by
 have e:s.freeze [] = s:=St.freeze_nil s
 have h:∀ q,s.ev x = q→(match q with
  | .own k _=>(match (s.rw k).kind with
   | .sli _ _ false _=>ziH T (s.freeze [k]).rw s.ev (.slice t x lo hi mx) fun p=>K ((s.freeze [k]).put dst p)
   | _=>ziH T s.rw s.ev (.slice t x lo hi mx) fun p=>K (s.put dst p))
  | _=>ziH T s.rw s.ev (.slice t x lo hi mx) fun p=>K (s.put dst p)) = zEq T s t q lo hi mx fun fz p=>K ((s.freeze fz).put dst p):=by
  intro q hq
  unfold zEq
  cases q <;> simp only [ziH,hq,e]
 exact h _ rfl
end
def zEr (s:St) (l:List (Nat × Operand)):List (Nat × PV):=l.map fun x=>(x.1,s.ev x.2)
theorem ztb:zEr s [] = []:=(rfl)
theorem zo2 (n:Nat) (x:Operand) (l:List (Nat × Operand)):zEr s ((n,x) :: l) = (n,s.ev x) :: zEr s l:=(rfl)
def zgD (T:Tab):List (Nat × TypeId)→Prop | []=>True | x :: fs=>0 < (T x.2).size∧zgD T fs
theorem zl0:zgD T [] = True:=(rfl)
theorem zjK (o:Nat) (t:TypeId) (fs:List (Nat × TypeId)):zgD T ((o,t) :: fs) = (0 < (T t).size∧zgD T fs):=(rfl)
theorem zxg:∀ fs:List (Nat × TypeId),(∀ x ∈ fs,0 < (T x.2).size) = zgD T fs:=by
 intro fs
 induction fs with
 | nil=>simp [zgD]
 | cons x fs ih=>rw [zgD,← ih];simp
def zFx (T:Tab) (rw:Nat→Row) (kd:TK) (z:Nat) (zs:List Value) (pp:List (Nat × PV)) (K:PV→Prop):Prop :=
 0 < z∧match kd with
 | .struct fs=>zgD T fs∧zc3 T rw fs pp (zs.map PV.v) fun c=>K (.ag c)
 | _=>False
theorem zBY [zah] (t:TypeId) (parts:List (Nat × Operand)) (Kp:PV→Prop):zfU T s.rw s.ev t ⟨parts⟩ Kp = zFx T s.rw (T t).k (T t).size (T t).zero (zEr s parts) (kk Kp):=by
 unfold zfU zFx kk
 cases (T t).k <;> first | rfl | skip
 simp only [zxg]
 rfl
theorem zjL (rw:Nat→Row) (fs:List (Nat × TypeId)) (z:Nat) (zs:List Value) (pp:List (Nat × PV)) (Kp:PV→Prop) :
 zFx T rw (.struct fs) z zs pp (kk Kp) = (0 < z∧zgD T fs∧zc3 T rw fs pp (zs.map PV.v) (kk fun c=>Kp (.ag c))):=(rfl)
theorem zo3 (rw:Nat→Row) (fs:List (Nat × TypeId)) (c:List PV) (Kc:List PV→Prop):zc3 T rw fs [] c (kk Kc) = Kc c:=(rfl)
def zGC (T:Tab) (rw:Nat→Row) (fs:List (Nat × TypeId)) (x:Option (Nat × TypeId)) (p:PV) (rest:List (Nat × PV)) (cells:List PV) (Kc:List PV→Prop):Prop :=
 match x with
 | some (off,ft)=>zaZ rw p fun c=>c.length = (T ft).size∧off + c.length ≤ cells.length∧zc3 T rw fs rest (spl cells off c) Kc
 | none=>False
theorem zl1 (rw:Nat→Row) (fs:List (Nat × TypeId)) (i:Nat) (p:PV) (rest:List (Nat × PV)) (c:List PV) (Kc:List PV→Prop):zc3 T rw fs ((i,p) :: rest) c (kk Kc) = zGC T rw fs fs[i]? p rest c (kk Kc):=by
 unfold zGC kk
 rw [zc3]
 cases fs[i]? <;> rfl
theorem zo4 (rw:Nat→Row) (fs:List (Nat × TypeId)) (off:Nat) (ft:TypeId) (p:PV) (rest:List (Nat × PV)) (cells:List PV) (Kc:List PV→Prop) :
 zGC T rw fs (some (off,ft)) p rest cells (kk Kc) = zaZ rw p (kk fun c=>c.length = (T ft).size∧off + c.length ≤ cells.length∧zc3 T rw fs rest (spl cells off c) (kk Kc)):=(rfl)
section
variable {dst:Option Nat} {ty:TypeId} {pos:String} {af:Array Edge} {g:Option (Nat × Bool)}
theorem zo5 [zah] (t:TypeId) (parts:List (Nat × Operand)):opK P T s ⟨dst,.build t ⟨parts⟩,ty,pos,af,g⟩ K = zFx T s.rw (T t).k (T t).size (T t).zero (zEr s parts) (kk fun p=>K (s.put dst p)):=by
 rw [← zBY];rfl
def ncD (rw:Nat→Row) (kd:TK) (z:Nat) (x:PV) (Kb:Bool→Prop):Prop:=0 < z∧match kd with | .sli _=>slK rw x fun _ _ c=>Kb false∧(c = []→Kb true) | _=>False
theorem zjM [zah] (t t2:TypeId) (x:Operand):zea P T s ⟨dst,.binOp .eql t x (.const (.slice none 0 0)) t2,ty,pos,af,g⟩ K = ncD s.rw (T t).k (T t).size (s.ev x) (kk fun b=>K (s.put dst (.v (.bool b)))):=(rfl)
theorem zjN [zah] (t t2:TypeId) (x:Operand):zea P T s ⟨dst,.binOp .neq t x (.const (.slice none 0 0)) t2,ty,pos,af,g⟩ K = ncD s.rw (T t).k (T t).size (s.ev x) (kk fun b=>K (s.put dst (.v (.bool !b)))):=(rfl)
theorem zBZ (rw:Nat→Row) (e z z':Nat) (fr:Bool) (c:List PV) (Kb:Bool→Prop):ncD rw (.sli e) z (.sl fr z' c) (kk Kb) = (0 < z∧Kb false∧(c = []→Kb true)):=(rfl)
def zvl (r:Row) (ver:Nat) (Kb:Bool→Prop):Prop:=r.ver = ver∧match r.kind with | .nil=>Kb false∧Kb true | .sli _ _ _ c=>Kb false∧(c = []→Kb true) | _=>False
theorem zxh (rw:Nat→Row) (e z j v:Nat) (Kb:Bool→Prop):ncD rw (.sli e) z (.own j v) (kk Kb) = (0 < z∧zvl (rw j) v (kk Kb)):=by
 unfold ncD zvl kk slK
 dsimp only
 cases (rw j).kind <;> simp
theorem zo6 (ver e sz:Nat) (fz:Bool) (c:List PV) (Kb:Bool→Prop):zvl ⟨ver,.sli e sz fz c⟩ ver (kk Kb) = (Kb false∧(c = []→Kb true)):=by simp [zvl,kk]
theorem zo7 (ver:Nat) (Kb:Bool→Prop):zvl ⟨ver,.nil⟩ ver (kk Kb) = (Kb false∧Kb true):=by simp [zvl,kk]
theorem ztc [zah] (x:Operand):zea P T s ⟨dst,.move x,ty,pos,af,g⟩ K = opK P T s ⟨dst,.move x,ty,pos,af,g⟩ K:=(rfl)
theorem zl2 [zah] (x:Operand):zea P T s ⟨dst,.assign x,ty,pos,af,g⟩ K = opK P T s ⟨dst,.assign x,ty,pos,af,g⟩ K:=(rfl)
theorem ztd [zah] (c x y:Operand):zea P T s ⟨dst,.pick c x y,ty,pos,af,g⟩ K = opK P T s ⟨dst,.pick c x y,ty,pos,af,g⟩ K:=(rfl)
theorem zB0 [zah] (op:UnOp) (t:TypeId) (x:Operand):zea P T s ⟨dst,.unOp op t x,ty,pos,af,g⟩ K = opK P T s ⟨dst,.unOp op t x,ty,pos,af,g⟩ K:=(rfl)
theorem zjO [zah] (a b:TypeId) (x:Operand):zea P T s ⟨dst,.convert a b x,ty,pos,af,g⟩ K = opK P T s ⟨dst,.convert a b x,ty,pos,af,g⟩ K:=(rfl)
theorem zte [zah] (t:TypeId) (x:Operand):zea P T s ⟨dst,.load t x,ty,pos,af,g⟩ K = opK P T s ⟨dst,.load t x,ty,pos,af,g⟩ K:=(rfl)
theorem zgE [zah] (t:TypeId) (x:Operand) (f:Nat):zea P T s ⟨dst,.fieldAddr t x f,ty,pos,af,g⟩ K = opK P T s ⟨dst,.fieldAddr t x f,ty,pos,af,g⟩ K:=(rfl)
theorem zo8 [zah] (t:TypeId) (x:Operand) (f:Nat):zea P T s ⟨dst,.field t x f,ty,pos,af,g⟩ K = opK P T s ⟨dst,.field t x f,ty,pos,af,g⟩ K:=(rfl)
theorem zgF [zah] (t:TypeId) (x i:Operand):zea P T s ⟨dst,.indexAddr t x i,ty,pos,af,g⟩ K = opK P T s ⟨dst,.indexAddr t x i,ty,pos,af,g⟩ K:=(rfl)
theorem zo9 [zah] (t:TypeId) (x i:Operand):zea P T s ⟨dst,.index t x i,ty,pos,af,g⟩ K = opK P T s ⟨dst,.index t x i,ty,pos,af,g⟩ K:=(rfl)
theorem zjP [zah] (x:Operand) (i:Nat):zea P T s ⟨dst,.extract x i,ty,pos,af,g⟩ K = opK P T s ⟨dst,.extract x i,ty,pos,af,g⟩ K:=(rfl)
theorem zh6 [zah] (x:Operand):zea P T s ⟨dst,.nilCheck x,ty,pos,af,g⟩ K = opK P T s ⟨dst,.nilCheck x,ty,pos,af,g⟩ K:=(rfl)
theorem zh7 [zah] (f:Fn) (fi caps:Array Operand):zea P T s ⟨dst,.makeFunc f fi caps,ty,pos,af,g⟩ K = opK P T s ⟨dst,.makeFunc f fi caps,ty,pos,af,g⟩ K:=(rfl)
theorem zpa [zah] (t:TypeId):zea P T s ⟨dst,.alloc t,ty,pos,af,g⟩ K = opK P T s ⟨dst,.alloc t,ty,pos,af,g⟩ K:=(rfl)
theorem zxi [zah] (t:TypeId) (x:Operand):zea P T s ⟨dst,.box t x,ty,pos,af,g⟩ K = opK P T s ⟨dst,.box t x,ty,pos,af,g⟩ K:=(rfl)
theorem zl3 [zah] (t:TypeId) (n:Nat):zea P T s ⟨dst,.buildSlice t n ⟨[]⟩,ty,pos,af,g⟩ K = opK P T s ⟨dst,.buildSlice t n ⟨[]⟩,ty,pos,af,g⟩ K:=(rfl)
theorem zl4 [zah] (t:TypeId) (n:Nat) (p q:Nat × Operand) (l:List (Nat × Operand)):zea P T s ⟨dst,.buildSlice t n ⟨p :: q :: l⟩,ty,pos,af,g⟩ K = opK P T s ⟨dst,.buildSlice t n ⟨p :: q :: l⟩,ty,pos,af,g⟩ K:=(rfl)
def zB1 (T:Tab) (s:St) (d:Nat) (t:TypeId) (n i:Nat) (p:PV) (Kt:St→Prop) (A:Prop):Prop :=
 match p with
 | .own k ver=>(match (s.rw k).kind with | .tab _ _=>zks T s d t n i k ver Kt | .sli _ _ _ _=>A ∨ zks T s d t n i k ver Kt | _=>A)
 | _=>A
theorem zl5 [zah] (d:Nat) (t:TypeId) (n i:Nat) (x:Operand):zea P T s ⟨some d,.buildSlice t n ⟨[(i,x)]⟩,ty,pos,af,g⟩ K =
 zB1 T s d t n i (s.ev x) (kk K) (kk (opK P T s ⟨some d,.buildSlice t n ⟨[(i,x)]⟩,ty,pos,af,g⟩ K)):=by
 unfold zea zB1 kk
 dsimp only
 cases s.ev x <;> rfl
theorem zB2 (d:Nat) (t:TypeId) (n i:Nat) (x:Value) (A:Prop):zB1 T s d t n i (.v x) (kk K) (kk A) = A:=(rfl)
theorem zxj (d:Nat) (t:TypeId) (n i:Nat) (fr:Bool) (z:Nat) (c:List PV) (A:Prop):zB1 T s d t n i (.sl fr z c) (kk K) (kk A) = A:=(rfl)
theorem zxk (d:Nat) (t:TypeId) (n i:Nat) (c:List PV) (A:Prop):zB1 T s d t n i (.ag c) (kk K) (kk A) = A:=(rfl)
theorem zpb (d:Nat) (t:TypeId) (n i:Nat) (fr:Bool) (c:List PV) (o:Nat) (A:Prop):zB1 T s d t n i (.eref fr c o) (kk K) (kk A) = A:=(rfl)
theorem ztf (d:Nat) (t:TypeId) (n i:Nat) (j v o:Nat) (A:Prop):zB1 T s d t n i (.ref j v o) (kk K) (kk A) = A:=(rfl)
def ztg (T:Tab) (r:Row) (s:St) (d:Nat) (t:TypeId) (n i k ver:Nat) (Kt:St→Prop) (A:Prop):Prop:=match r.kind with | .tab _ _=>zks T s d t n i k ver Kt | .sli _ _ _ _=>A ∨ zks T s d t n i k ver Kt | _=>A
theorem zth (d:Nat) (t:TypeId) (n i k ver:Nat) (A:Prop):zB1 T s d t n i (.own k ver) (kk K) (kk A) = ztg T (s.rw k) s d t n i k ver (kk K) (kk A):=(rfl)
theorem zl6 (d:Nat) (t:TypeId) (n i k ver v:Nat) (A:Prop):ztg T ⟨v,.nil⟩ s d t n i k ver (kk K) (kk A) = A:=(rfl)
def zhu (T:Tab) (s:St) (d:Nat) (kd:TK) (z n i k ver:Nat) (r:Row) (K:St→Prop):Prop:=0 < z∧n = 1∧i = 0∧r.ver = ver∧r.kind.slice = true∧d ≠ k∧(match kd with
 | .sli e=>(T e).size = 1∧K ((s.row d ⟨(s.rw d).ver + 1,.tab e [.own k ver]⟩).put (some d) (.own d ((s.rw d).ver + 1)))
 | _=>False)
def orB (A B:Prop):Prop:=A ∨ B
theorem zGD {A B:Prop} {u:Dm A} {v:Dm B} (h:A):orB (kk A u) (kk B v):=.inl h
theorem zGE {A B:Prop} {u:Dm A} {v:Dm B} (h:B):orB (kk A u) (kk B v):=.inr h
theorem zl7 (d:Nat) (t:TypeId) (n i k ver v e z:Nat) (fz:Bool) (c:List PV) (A:Prop):ztg T ⟨v,.sli e z fz c⟩ s d t n i k ver (kk K) (kk A) = orB (kk A) (kk (zhu T s d (T t).k (T t).size n i k ver (s.rw k) K)):=(rfl)
theorem zjQ (d e k ver e' z:Nat) (fz:Bool) (c:List PV) (h:(T e).size = 1):zhu T s d (.sli e) 1 1 0 k ver ⟨ver,.sli e' z fz c⟩ K = (d ≠ k∧K ((s.row d ⟨(s.rw d).ver + 1,.tab e [.own k ver]⟩).put (some d) (.own d ((s.rw d).ver + 1)))):=by
 simp only [zhu,h,RK.slice,Nat.one_pos,true_and]
theorem zl8 (d:Nat) (t:TypeId) (n i k ver v e:Nat) (c:List PV) (A:Prop):ztg T ⟨v,.tab e c⟩ s d t n i k ver (kk K) (kk A) = zhu T s d (T t).k (T t).size n i k ver (s.rw k) K:=(rfl)
theorem zjR (d e k ver e':Nat) (c:List PV) (h:(T e).size = 1):zhu T s d (.sli e) 1 1 0 k ver ⟨ver,.tab e' c⟩ K = (d ≠ k∧K ((s.row d ⟨(s.rw d).ver + 1,.tab e [.own k ver]⟩).put (some d) (.own d ((s.rw d).ver + 1)))):=by
 simp only [zhu,h,RK.slice,Nat.one_pos,true_and]
def zB3 (T:Tab) (s:St) (d:Nat) (t t2:TypeId) (x:PV) (y:PV) (Kt:St→Prop) (A:Prop):Prop :=
 match x with
 | .own k ver=>(match (s.rw k).kind with | .tab e c=>zGv T s d t t2 k ver e c y Kt | _=>A)
 | _=>A
def zEs (T:Tab) (s:St) (d:Nat) (t t2:TypeId) (x:PV) (y:PV) (Kt:St→Prop) (A:Prop):Prop :=
 match y with
 | .v (.string b)=>zrO T s d t t2 x b Kt
 | _=>zB3 T s d t t2 x y Kt A
theorem zl9 [zah] (d:Nat) (x y:Operand) (t t2:TypeId):zea P T s ⟨some d,.call ⟨.builtin .append,⟨[x,y]⟩,⟨[t,t2]⟩⟩,ty,pos,af,g⟩ K =
 zEs T s d t t2 (s.ev x) (s.ev y) (kk K) (kk (opK P T s ⟨some d,.call ⟨.builtin .append,⟨[x,y]⟩,⟨[t,t2]⟩⟩,ty,pos,af,g⟩ K)):=by
 unfold zea zEs zB3 kk
 dsimp only
 cases s.ev y with
 | v z=>cases z <;> first | rfl | (cases s.ev x <;> rfl)
 | _=>cases s.ev x <;> rfl
theorem zti (d:Nat) (t t2:TypeId) (x:PV) (k ver:Nat) (A:Prop):zEs T s d t t2 x (.own k ver) (kk K) (kk A) = zB3 T s d t t2 x (.own k ver) (kk K) (kk A):=(rfl)
theorem zxl (d:Nat) (t t2:TypeId) (x:PV) (fr:Bool) (z:Nat) (c:List PV) (A:Prop):zEs T s d t t2 x (.sl fr z c) (kk K) (kk A) = zB3 T s d t t2 x (.sl fr z c) (kk K) (kk A):=(rfl)
theorem zma (d:Nat) (t t2:TypeId) (x:PV) (a:Option Addr) (n c:Nat) (A:Prop):zEs T s d t t2 x (.v (.slice a n c)) (kk K) (kk A) = zB3 T s d t t2 x (.v (.slice a n c)) (kk K) (kk A):=(rfl)
def zxm (T:Tab) (r:Row) (s:St) (d:Nat) (kd:TK) (z:Nat) (kd2:TK) (z2 k ver:Nat) (b:ByteArray) (K:St→Prop):Prop :=
 0 < z∧0 < z2∧kd2 = .str∧match kd with
 | .sli e=>(T e).size = 1∧0 < (T e).bytes∧(r.ver = ver∧(match r.kind with
  | .nil=>b.size * (T e).bytes ≤ 140737488355328∧K (zc4 s d k (.sli e (T e).size false (zuA b)))
  | .sli e' sz' false c=>e' = e∧sz' = (T e).size∧(c.length + b.size) * (T e).bytes ≤ 140737488355328∧K (zc4 s d k (.sli e (T e).size false (c ++ zuA b)))
  | _=>False))
 | _=>False
theorem ztj (d:Nat) (t t2:TypeId) (k ver:Nat) (b:ByteArray) (A:Prop):zEs T s d t t2 (.own k ver) (.v (.string b)) (kk K) (kk A) = zxm T (s.rw k) s d (T t).k (T t).size (T t2).k (T t2).size k ver b (kk K):=(rfl)
theorem zpc (d k ver e:Nat) (c:List PV) (b:ByteArray) (h:(T e).size = 1) (h2:(T e).bytes = 1):zxm T ⟨ver,.sli e 1 false c⟩ s d (.sli e) 1 .str 1 k ver b (kk K) =
 (c.length + b.size ≤ 140737488355328∧K (zc4 s d k (.sli e 1 false (c ++ zuA b)))):=by
 simp only [zxm,h,h2,Nat.one_pos,true_and,kk,Nat.mul_one]
theorem zpd (d k ver e:Nat) (b:ByteArray) (h:(T e).size = 1) (h2:(T e).bytes = 1):zxm T ⟨ver,.nil⟩ s d (.sli e) 1 .str 1 k ver b (kk K) =
 (b.size ≤ 140737488355328∧K (zc4 s d k (.sli e 1 false (zuA b)))):=by
 simp only [zxm,h,h2,Nat.one_pos,true_and,kk,Nat.mul_one]
theorem zB4 (d:Nat) (t t2:TypeId) (x:Value) (y:PV) (A:Prop):zB3 T s d t t2 (.v x) y (kk K) (kk A) = A:=(rfl)
theorem zxn (d:Nat) (t t2:TypeId) (fr:Bool) (z:Nat) (c:List PV) (y:PV) (A:Prop):zB3 T s d t t2 (.sl fr z c) y (kk K) (kk A) = A:=(rfl)
def znp (T:Tab) (r:Row) (s:St) (d:Nat) (t t2:TypeId) (k ver:Nat) (y:PV) (Kt:St→Prop) (A:Prop):Prop:=match r.kind with | .tab e c=>zGv T s d t t2 k ver e c y Kt | _=>A
theorem ztk (d:Nat) (t t2:TypeId) (k ver:Nat) (y:PV) (A:Prop):zB3 T s d t t2 (.own k ver) y (kk K) (kk A) = znp T (s.rw k) s d t t2 k ver y (kk K) (kk A):=(rfl)
theorem zjS (d:Nat) (t t2:TypeId) (k ver v e z:Nat) (fz:Bool) (c:List PV) (y:PV) (A:Prop):znp T ⟨v,.sli e z fz c⟩ s d t t2 k ver y (kk K) (kk A) = A:=(rfl)
theorem zjT (d:Nat) (t t2:TypeId) (k ver v:Nat) (y:PV) (A:Prop):znp T ⟨v,.nil⟩ s d t t2 k ver y (kk K) (kk A) = A:=(rfl)
def zC3 (T:Tab) (s:St) (d:Nat) (kd:TK) (z k ver e:Nat) (r:Row) (c:List PV) (y:PV) (K:St→Prop):Prop :=
 0 < z∧kd = .sli e∧(T e).size = 1∧0 < (T e).bytes∧r.ver = ver∧zvJ s.rw y fun news=>(c.length + news.length) * (T e).bytes ≤ 140737488355328∧K (zc4 s d k (.tab e (c ++ news)))
theorem zjU (d:Nat) (t:TypeId) (k ver v e:Nat) (c:List PV) (y:PV) (A:Prop):znp T ⟨v,.tab e c⟩ s d t t k ver y (kk K) (kk A) = zC3 T s d (T t).k (T t).size k ver e (s.rw k) c y (kk K):=propext ⟨fun h=>h.2,fun h=>⟨rfl,h⟩⟩
theorem zpe (d k ver e e':Nat) (c c':List PV) (y:PV) (h:(T e).size = 1) (h2:0 < (T e).bytes):zC3 T s d (.sli e) 1 k ver e ⟨ver,.tab e' c'⟩ c y (kk K) =
 zvJ s.rw y (kk fun news=>(c.length + news.length) * (T e).bytes ≤ 140737488355328∧K (zc4 s d k (.tab e (c ++ news)))):=by
 simp only [zC3,h,h2,Nat.one_pos,true_and,kk]
def zpf (r:Row) (rw:Nat→Row) (v:Nat) (Kc:List PV→Prop):Prop:=r.ver = v∧(match r.kind with
 | .sli _ sz _ c=>sz = 1∧(∀ p ∈ c,isV p = true)∧Kc c
 | .tab _ c=>(∀ p ∈ c,zlh rw p)∧Kc c
 | _=>False)
theorem zpg (rw:Nat→Row) (j v:Nat) (Kc:List PV→Prop):zvJ rw (.own j v) (kk Kc) = zpf (rw j) rw v (kk Kc):=(rfl)
theorem zph [zah] (rw:Nat→Row) (v e:Nat) (fz:Bool) (xs:List Int) (Kc:List PV→Prop):zpf ⟨v,.sli e 1 fz (iL xs)⟩ rw v (kk Kc) = Kc (iL xs):=by
 have:=zwG xs
 simp only [zpf,this,true_and,kk]
theorem zmb (rw:Nat→Row) (v e k ver:Nat) (Kc:List PV→Prop):zpf ⟨v,.tab e [.own k ver]⟩ rw v (kk Kc) = (zlh rw (.own k ver)∧Kc [.own k ver]):=by
 simp only [zpf,true_and,kk,List.mem_singleton,forall_eq]
theorem zpi [zah] (t:TypeId) (parts:Array (Nat × Operand)):zea P T s ⟨dst,.build t parts,ty,pos,af,g⟩ K = opK P T s ⟨dst,.build t parts,ty,pos,af,g⟩ K:=(rfl)
theorem zpj [zah] (t:TypeId) (ad x:Operand):zea P T s ⟨dst,.store t ad x,ty,pos,af,g⟩ K = opK P T s ⟨dst,.store t ad x,ty,pos,af,g⟩ K:=(rfl)
theorem ztl [zah] (t:TypeId) (l c:Operand):zea P T s ⟨dst,.makeSlice t l c,ty,pos,af,g⟩ K = opK P T s ⟨dst,.makeSlice t l c,ty,pos,af,g⟩ K:=(rfl)
theorem zpk [zah] (t:TypeId) (x:Operand) (lo hi mx:Option Operand):zea P T s ⟨dst,.slice t x lo hi mx,ty,pos,af,g⟩ K = opK P T s ⟨dst,.slice t x lo hi mx,ty,pos,af,g⟩ K:=(rfl)
theorem zjV [zah] (op:BinOp) (t t2:TypeId) (x:Operand) (y:Nat):zea P T s ⟨dst,.binOp op t x (.tmp y) t2,ty,pos,af,g⟩ K = opK P T s ⟨dst,.binOp op t x (.tmp y) t2,ty,pos,af,g⟩ K:=by cases op <;> rfl
theorem zjW [zah] (op:BinOp) (t t2:TypeId) (x:Operand) (k:IntKind) (n:Int):zea P T s ⟨dst,.binOp op t x (.const (.int k n)) t2,ty,pos,af,g⟩ K = opK P T s ⟨dst,.binOp op t x (.const (.int k n)) t2,ty,pos,af,g⟩ K:=by cases op <;> rfl
theorem zh8 [zah] (op:BinOp) (t t2:TypeId) (x:Operand) (b:Bool):zea P T s ⟨dst,.binOp op t x (.const (.bool b)) t2,ty,pos,af,g⟩ K = opK P T s ⟨dst,.binOp op t x (.const (.bool b)) t2,ty,pos,af,g⟩ K:=by cases op <;> rfl
theorem zfI [zah] (op:BinOp) (t t2:TypeId) (x:Operand) (b:ByteArray):zea P T s ⟨dst,.binOp op t x (.const (.string b)) t2,ty,pos,af,g⟩ K = opK P T s ⟨dst,.binOp op t x (.const (.string b)) t2,ty,pos,af,g⟩ K:=by cases op <;> rfl
end
section
variable {dst:Option Nat} {ty:TypeId} {pos:String} {af:Array Edge} {g:Option (Nat × Bool)} {Ke:Ent→St→Prop}
theorem zxo [zah] (x:Operand):dK P T s ⟨dst,.move x,ty,pos,af,g⟩ (kk Ke) = evK (s.ev x) (kk fun p=>Ke ⟨[],.ids []⟩ (s.put dst p)):=(rfl)
theorem zpl [zah] (x:Operand):dK P T s ⟨dst,.assign x,ty,pos,af,g⟩ (kk Ke) = evK (s.ev x) (kk fun p=>Ke ⟨[],.ids []⟩ (s.put dst p)):=(rfl)
theorem zxp [zah] (c x y:Operand):dK P T s ⟨dst,.pick c x y,ty,pos,af,g⟩ (kk Ke) = zAt (s.ev c) (kk (evK (s.ev x) (kk fun p=>Ke ⟨[],.ids []⟩ (s.put dst p)))) (kk (evK (s.ev y) (kk fun p=>Ke ⟨[],.ids []⟩ (s.put dst p)))):=(rfl)
theorem zB5 [zah] (op:BinOp) (t t2:TypeId) (x y:Operand):dK P T s ⟨dst,.binOp op t x y t2,ty,pos,af,g⟩ (kk Ke) = zcV T op t (s.ev x) (s.ev y) (kk fun p=>Ke ⟨[],.ids []⟩ (s.put dst p)):=(rfl)
theorem zFy [zah] (op:UnOp) (t:TypeId) (x:Operand):dK P T s ⟨dst,.unOp op t x,ty,pos,af,g⟩ (kk Ke) = unK op (s.ev x) (kk fun p=>Ke ⟨[],.ids []⟩ (s.put dst p)):=(rfl)
theorem zmc [zah] (a b:TypeId) (x:Operand):dK P T s ⟨dst,.convert a b x,ty,pos,af,g⟩ (kk Ke) = zc1 [s.ev x] [] (kk fun l=>zgY T s.rw a b (s.ev x) (kk fun p=>Ke ⟨l,.ids []⟩ (s.put dst p))):=(rfl)
theorem zxq [zah] (t:TypeId) (x:Operand):dK P T s ⟨dst,.load t x,ty,pos,af,g⟩ (kk Ke) = zc1 [s.ev x] [] (kk fun l=>zre s.rw (s.ev x) (kk fun m c off=>ldK T t m c off (kk fun p=>Ke ⟨l,.ids []⟩ (s.put dst p)))):=(rfl)
theorem zh9 [zah] (t:TypeId) (x:Operand) (f:Nat):dK P T s ⟨dst,.fieldAddr t x f,ty,pos,af,g⟩ (kk Ke) =
 zc1 [s.ev x] [] (kk fun l=>zdI T t f (kk fun o _=>zkF (s.ev x) = true∧zdh s.rw (s.ev x) (kk (evK (zd2 (s.ev x) o) (kk fun p=>Ke ⟨l,.ids []⟩ (s.put dst p)))))):=(rfl)
theorem ztm [zah] (t:TypeId) (x:Operand) (f:Nat):dK P T s ⟨dst,.field t x f,ty,pos,af,g⟩ (kk Ke) =
 agK (s.ev x) (kk fun c=>zdI T t f (kk fun o ft=>ldK T ft .asis c o (kk fun p=>Ke ⟨[],.ids []⟩ (s.put dst p)))):=zjI (P:=P) (T:=T) (s:=s) (K:=Ke ⟨[],.ids []⟩) (dst:=dst) (ty:=ty) (pos:=pos) (af:=af) (g:=g) t x f
theorem zia [zah] (t:TypeId) (x y:Operand):dK P T s ⟨dst,.indexAddr t x y,ty,pos,af,g⟩ (kk Ke) = zc1 [s.ev x,s.ev y] [] (kk fun l=>zbp T s.rw t (s.ev x) (s.ev y) (kk fun p=>Ke ⟨l,.ids []⟩ (s.put dst p))):=(rfl)
theorem ztn [zah] (t:TypeId) (x y:Operand):dK P T s ⟨dst,.index t x y,ty,pos,af,g⟩ (kk Ke) = zs4 T t (s.ev x) (s.ev y) (kk fun p=>Ke ⟨[],.ids []⟩ (s.put dst p)):=(rfl)
theorem zmd [zah] (x:Operand) (n:Nat):dK P T s ⟨dst,.extract x n,ty,pos,af,g⟩ (kk Ke) = zGB (s.ev x) (kk fun ps=>n < ps.length∧evK (ps.getD n .junk) (kk fun p=>Ke ⟨[],.ids []⟩ (s.put dst p))):=(rfl)
theorem zjX [zah] (f:FuncId) (caps:Array Operand):dK P T s ⟨dst,.makeFunc (.func f) #[] caps,ty,pos,af,g⟩ (kk Ke) = Ke ⟨[],.ids []⟩ (s.put dst (.clo f (caps.toList.map s.ev))):=by
 show (#[] = (#[]:Array Operand)∧Ke ⟨[],.ids []⟩ (s.put dst (.clo f (caps.toList.map s.ev)))) = _
 simp
theorem zjY [zah] (x:Operand):dK P T s ⟨dst,.nilCheck x,ty,pos,af,g⟩ (kk Ke) = zc1 [s.ev x] [] (kk fun l=>zdh s.rw (s.ev x) (kk (evK (s.ev x) (kk fun p=>Ke ⟨l,.ids []⟩ (s.put dst p))))):=(rfl)
theorem zB6 [zah] (x:Operand) (t:TypeId):dK P T s ⟨dst,.call ⟨.builtin .len,#[x],#[t]⟩,ty,pos,af,g⟩ (kk Ke) = zc1 [s.ev x] [] (kk fun l=>zyV T s.rw t (s.ev x) (kk fun p=>Ke ⟨l,.ids []⟩ (s.put dst p))):=(rfl)
theorem zB7 [zah] (x y:Operand) (ts:Array TypeId):dK P T s ⟨dst,.call ⟨.builtin .max,#[x,y],ts⟩,ty,pos,af,g⟩ (kk Ke) = zc1 [s.ev x,s.ev y] [] (kk fun l=>zcF true (s.ev x) (s.ev y) (kk fun p=>Ke ⟨l,.ids []⟩ (s.put dst p))):=(rfl)
theorem zB8 [zah] (x y:Operand) (ts:Array TypeId):dK P T s ⟨dst,.call ⟨.builtin .min,#[x,y],ts⟩,ty,pos,af,g⟩ (kk Ke) = zc1 [s.ev x,s.ev y] [] (kk fun l=>zcF false (s.ev x) (s.ev y) (kk fun p=>Ke ⟨l,.ids []⟩ (s.put dst p))):=(rfl)
theorem zpm [zah] (t:TypeId) (x:Operand) (mx:Option Operand):dK P T s ⟨dst,.slice t x none none mx,ty,pos,af,g⟩ (kk Ke) = zc1 (s.ev x :: (mx.toList).map s.ev) [] (kk fun l=>zbx T s.rw s.ev t (s.ev x) none none mx (kk fun p=>Ke ⟨l,.ids []⟩ (s.put dst p))):=by
 cases mx <;> rfl
theorem zpn [zah] (t:TypeId) (x lo:Operand):dK P T s ⟨dst,.slice t x (some lo) none none,ty,pos,af,g⟩ (kk Ke) = zc1 [s.ev x,s.ev lo] [] (kk fun l=>zbx T s.rw s.ev t (s.ev x) (some lo) none none (kk fun p=>Ke ⟨l,.ids []⟩ (s.put dst p))):=(rfl)
def zpo (T:Tab) (s:St) (dst:Option Nat) (t:TypeId) (x hi:Operand) (r:Row) (k ver:Nat) (py:PV) (Ke:Ent→St→Prop):Prop :=
 match r.kind with
 | .sli _ _ false _=>zIc T s dst t r k ver py Ke
 | _=>zc1 [.own k ver,py] [] (kk fun l=>zbx T s.rw s.ev t (.own k ver) none (some hi) none (kk fun p=>Ke ⟨l,.ids []⟩ (s.put dst p)))
def zFz (T:Tab) (s:St) (dst:Option Nat) (t:TypeId) (x hi:Operand) (px py:PV) (Ke:Ent→St→Prop):Prop :=
 match px with
 | .own k ver=>zpo T s dst t x hi (s.rw k) k ver py Ke
 | _=>zc1 [px,py] [] (kk fun l=>zbx T s.rw s.ev t px none (some hi) none (kk fun p=>Ke ⟨l,.ids []⟩ (s.put dst p)))
theorem zto (t:TypeId) (x hi:Operand) (k ver:Nat) (py:PV):zFz T s dst t x hi (.own k ver) py (kk Ke) = zpo T s dst t x hi (s.rw k) k ver py (kk Ke):=(rfl)
theorem zxr (t:TypeId) (x hi:Operand) (fr:Bool) (z:Nat) (c:List PV) (py:PV):zFz T s dst t x hi (.sl fr z c) py (kk Ke) = zc1 [.sl fr z c,py] [] (kk fun l=>zbx T s.rw s.ev t (.sl fr z c) none (some hi) none (kk fun p=>Ke ⟨l,.ids []⟩ (s.put dst p))):=(rfl)
theorem zB9 (t:TypeId) (x hi:Operand) (v:Value) (py:PV):zFz T s dst t x hi (.v v) py (kk Ke) = zc1 [.v v,py] [] (kk fun l=>zbx T s.rw s.ev t (.v v) none (some hi) none (kk fun p=>Ke ⟨l,.ids []⟩ (s.put dst p))):=(rfl)
theorem zpp (t:TypeId) (x hi:Operand) (v e z:Nat) (c:List PV) (k ver:Nat) (py:PV):zpo T s dst t x hi ⟨v,.sli e z true c⟩ k ver py (kk Ke) = zc1 [.own k ver,py] [] (kk fun l=>zbx T s.rw s.ev t (.own k ver) none (some hi) none (kk fun p=>Ke ⟨l,.ids []⟩ (s.put dst p))):=(rfl)
def zGF (T:Tab) (t e:TypeId):Prop:=0 < (T t).size∧(T t).k = .sli e∧0 < (T e).size∧(T e).size = 1
theorem zjZ (t:TypeId) (x hi:Operand) (v e:Nat) (c:List PV) (k ver d:Nat) (kd:IntKind) (m:Int):zpo T s (some d) t x hi ⟨v,.sli e 1 false c⟩ k ver (.v (.int kd m)) (kk Ke) =
 (v = ver∧zGF T t e∧0 ≤ m∧m ≤ (c.length:Int)∧Ke ⟨[],.ids [k]⟩ ((s.row k ⟨ver + 1,.sli e 1 false (c.take m.toNat)⟩).put (some d) (.own k (ver + 1)))):=by
 refine propext ⟨fun h=>?_,fun ⟨h1,⟨h2,h3,h4,h5⟩,h6,h7,h8⟩=>⟨d,e,c,kd,m,rfl,by rw [h1],h2,h3,h4,h5,rfl,h6,h7,h8⟩⟩
 obtain ⟨d',e',c',kd',m',g1,g2,g3,g4,g5,g6,g7,g8,g9,g10⟩:=h
 cases g1;cases g2;cases g7
 exact ⟨rfl,⟨g3,g4,g5,g6⟩,g8,g9,g10⟩
theorem zpq [zah] (t:TypeId) (x hi:Operand):dK P T s ⟨dst,.slice t x none (some hi) none,ty,pos,af,g⟩ (kk Ke) = zFz T s dst t x hi (s.ev x) (s.ev hi) (kk Ke):=by
 have hr:(zeG T s.rw s.ev (.slice t x none (some hi) none) fun p=>Ke ⟨znx s ⟨dst,.slice t x none (some hi) none,ty,pos,af,g⟩,.ids []⟩ (s.put dst p)) = zc1 [s.ev x,s.ev hi] [] (kk fun l=>zbx T s.rw s.ev t (s.ev x) none (some hi) none (kk fun p=>Ke ⟨l,.ids []⟩ (s.put dst p))):=(rfl)
 show zGu T s ⟨dst,.slice t x none (some hi) none,ty,pos,af,g⟩ t (s.ev x) (s.ev hi) (kk Ke) = _
 cases hx:s.ev x with
 | own k ver =>
   rw [hx] at hr
   unfold zGu zFz zpo
   dsimp only
   generalize s.rw k = r
   cases r with
   | mk v kd =>
     cases kd with
     | sli e z fz c=>cases fz with
       | false=>rfl
       | true=>exact hr
     | _=>exact hr
 | _=>rw [hx] at hr;exact hr
theorem zpr [zah] (t:TypeId) (x lo hi:Operand):dK P T s ⟨dst,.slice t x (some lo) (some hi) none,ty,pos,af,g⟩ (kk Ke) = zc1 [s.ev x,s.ev lo,s.ev hi] [] (kk fun l=>zbx T s.rw s.ev t (s.ev x) (some lo) (some hi) none (kk fun p=>Ke ⟨l,.ids []⟩ (s.put dst p))):=(rfl)
theorem ztp [zah] (t:TypeId) (parts:List (Nat × Operand)):dK P T s ⟨dst,.build t ⟨parts⟩,ty,pos,af,g⟩ (kk Ke) = zc1 (evs s parts) [] (kk fun l=>zFx T s.rw (T t).k (T t).size (T t).zero (zEr s parts) (kk fun p=>Ke ⟨l,.ids []⟩ (s.put dst p))):=by
 have e:((Op.build t ⟨parts⟩).operands.toList.map s.ev).flatMap zeg = (evs s parts).flatMap zeg:=by
  simp [Op.operands,evs]
  rfl
 show zeG T s.rw s.ev (.build t ⟨parts⟩) (fun p=>Ke ⟨((Op.build t ⟨parts⟩).operands.toList.map s.ev).flatMap zeg,.ids []⟩ (s.put dst p)) = _
 rw [e]
 exact (zBY (T:=T) (s:=s) t parts (fun p=>Ke ⟨(evs s parts).flatMap zeg,.ids []⟩ (s.put dst p)))
def zC4 [zah] (P:Program) (f:FuncId) (raw:List PV) (d:Nat) (s:St) (Ke:Ent→St→Prop):Prop:=zFN P s f raw d (fun rd k s1=>Ke ⟨rd,.ids [d,k]⟩ s1)
theorem zC5 [zah] {f:FuncId} {args raw lent:List PV} {k v e e2 d:Nat} {p:List Nat} {rows rows':List (List PV)} {r:RV} {Ka:RV→Prop} {us:Dm s} {u:Dm Ke} (h:AT P f args e e2 rows rows' (.rv r))
 (hg:GiveL [(k,v)] raw args) (ht:TabIs s.rw k v e e2 p rows) (hn:p.Nodup) (hd:d % 1000 ≠ k % 1000) (hk:Ke ⟨[],.ids [d,k]⟩ (zal (s.killed k p) d r)):zlg P f lent Ka (zC4 P f raw d (kk s us) (kk Ke u)) :=
 .inr (.inl ⟨k,v,e,e2,p,rows,rows',args,r,h,hg,ht,hn,hd,hk⟩)
theorem zAv [zah] {f:FuncId} {raw lent:List PV} {k d:Nat} {x:RV} {r:Row} {Ka:RV→Prop} {us:Dm s} {u:Dm Ke} (rd:List Nat) (h:∀ s':St,s'.rw k = s.rw k→(∀ a ∈ rd,s'.rw a = s.rw a)→∀ K':St→Prop,K' (zal (s'.row k r) d x)→askG P s' f raw (some d) K') (hd:d % 1000 ≠ k % 1000)
 (hk:Ke ⟨rd,.ids [d,k]⟩ (zal (s.row k r) d x)):zlg P f lent Ka (zC4 P f raw d (kk s us) (kk Ke u)):=.inr (.inr (.inr ⟨rd,k,x,r,h,hd,hk⟩))
theorem zxs [zah] (d:Nat) (f:Operand) (args:List Operand) (ts:Array TypeId):dK P T s ⟨some d,.call ⟨.value f,⟨args⟩,ts⟩,ty,pos,af,g⟩ (kk Ke) =
 zeF s.rw 3 (zxb s args) [] (kk fun l=>zeF s.rw 4 [s.ev f] l (kk fun l'=>zz7 (s.ev f) (kk fun g caps=>zlg P g (zht s args ++ caps.map (zcp s.rw 3)) (kk fun rv=>Ke ⟨l',.res d⟩ (zal s d rv)) (zC4 P g (zxb s args ++ caps) d (kk s) (kk Ke))))):=by
 simp only [zeF,zAs,List.nil_append,List.flatMap_cons,List.flatMap_nil,List.append_nil]
 show (zel P s.rw s.ev f ⟨args⟩ (fun rv=>Ke ⟨(zxb s args).flatMap (zd0 s.rw 3) ++ zd0 s.rw 4 (s.ev f),.res d⟩ (zal s d rv)) ∨ tdK P s f ⟨.value f,⟨args⟩,ts⟩ d Ke) = _
 unfold zel tdK zz7 zlg zC4 kk
 cases s.ev f <;> first | rfl | (simp;done) | skip
theorem zib [zah] (f:Operand) (args:List Operand) (ts:Array TypeId):dK P T s ⟨none,.call ⟨.value f,⟨args⟩,ts⟩,ty,pos,af,g⟩ (kk Ke) =
 zeF s.rw 3 (zxb s args) [] (kk fun l=>zeF s.rw 4 [s.ev f] l (kk fun l'=>zz7 (s.ev f) (kk fun g caps=>zlg P g (zht s args ++ caps.map (zcp s.rw 3)) (kk fun rv=>Ke ⟨l',.ids []⟩ s) False))):=by
 have e:=zAu (P:=P) (s:=s) f args (fun rv=>Ke ⟨(zxb s args).flatMap (zd0 s.rw 3) ++ zd0 s.rw 4 (s.ev f),.ids []⟩ s)
 simp only [zeF,zAs,List.nil_append,List.flatMap_cons,List.flatMap_nil,List.append_nil]
 exact e
theorem zps [zah] (d:Nat) (x y:Operand) (t t2:TypeId):dK P T s ⟨some d,.call ⟨.builtin .append,#[x,y],#[t,t2]⟩,ty,pos,af,g⟩ (kk Ke) =
 zc1 [s.ev y] [] (kk fun l=>zc1 [s.ev x] [d] (kk fun l'=>opK P T s ⟨some d,.call ⟨.builtin .append,#[x,y],#[t,t2]⟩,ty,pos,af,g⟩ (Ke ⟨l,.ids l'⟩))):=by
 have e:∀ p:PV,[p].flatMap zeg = zeg p:=fun p=>by simp
 unfold zc1
 simp only [kk,e,List.nil_append]
 rfl
theorem ztq [zah] (d:Nat) (t:TypeId):dK P T s ⟨some d,.alloc t,ty,pos,af,g⟩ (kk Ke) = opK P T s ⟨some d,.alloc t,ty,pos,af,g⟩ (Ke ⟨[],.ids [d]⟩):=(rfl)
theorem zCa [zah] (d:Nat) (t:TypeId) (x:Operand):dK P T s ⟨some d,.box t x,ty,pos,af,g⟩ (kk Ke) = zc1 [s.ev x] [] (kk fun l=>opK P T s ⟨some d,.box t x,ty,pos,af,g⟩ (Ke ⟨l,.ids [d]⟩)):=by
 have e:∀ p:PV,[p].flatMap zeg = zeg p:=fun p=>by simp
 unfold zc1
 simp only [kk,e,List.nil_append]
 rfl
theorem zgG [zah] (d:Nat) (t:TypeId) (n:Nat) (parts:List (Nat × Operand)):dK P T s ⟨some d,.buildSlice t n ⟨parts⟩,ty,pos,af,g⟩ (kk Ke) = zc1 (evs s parts) [d] (kk fun l=>opK P T s ⟨some d,.buildSlice t n ⟨parts⟩,ty,pos,af,g⟩ (Ke ⟨[],.ids l⟩)):=(rfl)
theorem ztr [zah] (t:TypeId) (ad x:Operand):dK P T s ⟨dst,.store t ad x,ty,pos,af,g⟩ (kk Ke) = zc1 [s.ev ad,s.ev x] [] (kk fun l=>opK P T s ⟨dst,.store t ad x,ty,pos,af,g⟩ (Ke ⟨[],.ids l⟩)):=by
 have e:[s.ev ad,s.ev x].flatMap zeg = zeg (s.ev ad) ++ zeg (s.ev x):=by simp
 unfold zc1
 simp only [kk,e,List.nil_append]
 rfl
theorem zxt [zah] (d:Nat) (t:TypeId) (l c:Operand):dK P T s ⟨some d,.makeSlice t l c,ty,pos,af,g⟩ (kk Ke) = opK P T s ⟨some d,.makeSlice t l c,ty,pos,af,g⟩ (Ke ⟨[],.ids [d]⟩):=(rfl)
end
def TK.isInt:TK→Bool | .int _=>true | _=>false
section
variable {Kp:PV→Prop} {rw:Nat→Row}
section
variable (t:TypeId) (k:IntKind) (a b:Int)
theorem zxu:zcV T .add t (.v (.int k a)) (.v (.int k b)) Kp = Kp (.v (.int k (k.wrap (a + b)))):=by simp [zcV,zby,zb5]
theorem zxv:zcV T .sub t (.v (.int k a)) (.v (.int k b)) Kp = Kp (.v (.int k (k.wrap (a - b)))):=by simp [zcV,zby,zb5]
theorem zxw:zcV T .mul t (.v (.int k a)) (.v (.int k b)) Kp = Kp (.v (.int k (k.wrap (a * b)))):=by simp [zcV,zby,zb5]
theorem zxx:zcV T .quo t (.v (.int k a)) (.v (.int k b)) Kp = (b ≠ 0∧Kp (.v (.int k (k.wrap (a.tdiv b))))):=by simp [zcV,zby,zb5]
theorem zxy:zcV T .rem t (.v (.int k a)) (.v (.int k b)) Kp = (b ≠ 0∧Kp (.v (.int k (a.tmod b)))):=by simp [zcV,zby,zb5]
theorem zxz:zcV T .and t (.v (.int k a)) (.v (.int k b)) Kp = Kp (.v (.int k (zb4 k a b))):=by simp [zcV,zby,zb5]
theorem zCb:zcV T .or t (.v (.int k a)) (.v (.int k b)) Kp = Kp (.v (.int k (ior k a b))):=by simp [zcV,zby,zb5]
theorem zxA:zcV T .xor t (.v (.int k a)) (.v (.int k b)) Kp = Kp (.v (.int k (zDn k a b))):=by simp [zcV,zby,zb5]
theorem zme:zcV T .andNot t (.v (.int k a)) (.v (.int k b)) Kp = Kp (.v (.int k (zbP k a b))):=by simp [zcV,zby,zb5]
theorem zxB (k':IntKind):zcV T .shl t (.v (.int k a)) (.v (.int k' b)) Kp = (0 ≤ b∧Kp (.v (.int k (zkH k a b)))):=by simp [zcV,zby,zb5]
theorem zxC (k':IntKind):zcV T .shr t (.v (.int k a)) (.v (.int k' b)) Kp = (0 ≤ b∧Kp (.v (.int k (znH k a b)))):=by simp [zcV,zby,zb5]
theorem zxD:zcV T .eql t (.v (.int k a)) (.v (.int k b)) Kp = Kp (.v (.bool (a == b))):=by simp [zcV,zby,zb5]
theorem zxE:zcV T .neq t (.v (.int k a)) (.v (.int k b)) Kp = Kp (.v (.bool (a != b))):=by simp [zcV,zby,zb5]
theorem zxF:zcV T .lss t (.v (.int k a)) (.v (.int k b)) Kp = Kp (.v (.bool (decide (a < b)))):=by simp [zcV,zby,zb5]
theorem zxG:zcV T .leq t (.v (.int k a)) (.v (.int k b)) Kp = Kp (.v (.bool (decide (a ≤ b)))):=by simp [zcV,zby,zb5]
theorem zxH:zcV T .gtr t (.v (.int k a)) (.v (.int k b)) Kp = Kp (.v (.bool (decide (b < a)))):=by simp [zcV,zby,zb5]
theorem zxI:zcV T .geq t (.v (.int k a)) (.v (.int k b)) Kp = Kp (.v (.bool (decide (b ≤ a)))):=by simp [zcV,zby,zb5]
end
theorem zj0 (t:TypeId) (a b:ByteArray):zcV T .eql t (.v (.string a)) (.v (.string b)) Kp = Kp (.v (.bool (a.toList == b.toList))):=by simp [zcV,zmW]
theorem zj1 (t:TypeId) (a b:ByteArray):zcV T .neq t (.v (.string a)) (.v (.string b)) Kp = Kp (.v (.bool (!(a.toList == b.toList)))):=by simp [zcV,zmW]
theorem zj2 (t:TypeId) (a b:ByteArray):zcV T .add t (.v (.string a)) (.v (.string b)) Kp = (a.size + b.size ≤ 9223372036854775807∧Kp (.v (.string (a ++ b)))):=by simp [zcV,zmW]
theorem zic (t:TypeId) (a b:Bool):zcV T .eql t (.v (.bool a)) (.v (.bool b)) Kp = ((T t).k = .bool∧0 < (T t).size∧Kp (.v (.bool (a == b)))):=by simp [zcV]
theorem zid (t:TypeId) (a b:Bool):zcV T .neq t (.v (.bool a)) (.v (.bool b)) Kp = ((T t).k = .bool∧0 < (T t).size∧Kp (.v (.bool (!(a == b))))):=by simp [zcV]
theorem zCc (b:Bool):unK .not (.v (.bool b)) Kp = Kp (.v (.bool !b)):=(rfl)
theorem zCd (k:IntKind) (n:Int):unK .neg (.v (.int k n)) Kp = Kp (.v (.int k (k.wrap (0 - n)))):=(rfl)
theorem zts (fr:Bool) (c:List PV) (off:Nat) (Km:Md→List PV→Nat→Prop):zre rw (.eref fr c off) Km = Km (.set fr) c off:=(rfl)
def zj3 (r:Row) (ver off:Nat) (Km:Md→List PV→Nat→Prop):Prop:=r.ver = ver∧match r.kind with | .box _ c=>Km .asis c off | .sli _ _ _ c=>Km (.set true) c off | .tab _ c=>Km .asis c off | _=>False
theorem zxJ (j ver off:Nat) (Km:Md→List PV→Nat→Prop):zre rw (.ref j ver off) Km = zj3 (rw j) ver off Km:=(rfl)
theorem zmf (ver off:Nat) (bt:TypeId) (c:List PV) (Km:Md→List PV→Nat→Prop):zj3 ⟨ver,.box bt c⟩ ver off Km = Km .asis c off:=by simp [zj3]
theorem zmg (ver off e:Nat) (c:List PV) (Km:Md→List PV→Nat→Prop):zj3 ⟨ver,.tab e c⟩ ver off Km = Km .asis c off:=by simp [zj3]
theorem zmh (ver off e sz:Nat) (fz:Bool) (c:List PV) (Km:Md→List PV→Nat→Prop):zj3 ⟨ver,.sli e sz fz c⟩ ver off Km = Km (.set true) c off:=by simp [zj3]
def zie (r:Row) (ver:Nat) (K:PV→Prop):Prop:=r.ver = ver∧match r.kind with | .nil=>K (.v (.int .i64 0)) | .sli _ sz _ c=>0 < sz∧K (.v (.int .i64 ((c.length / sz:Nat):Int))) | .tab _ c=>K (.v (.int .i64 (c.length:Int))) | _=>False
def zC6 (rw:Nat→Row) (k:TK) (z:Nat) (x:PV) (K:PV→Prop):Prop :=
 0 < z∧match k with
 | .str=>(match x with | .v (.string s)=>K (.v (.int .i64 s.size)) | _=>False)
 | .sli _=>zwp rw x fun sz n=>0 < sz∧K (.v (.int .i64 ((n / sz:Nat):Int)))
 | .arr n _=>K (.v (.int .i64 n))
 | _=>False
theorem zCe (t:TypeId) (x:PV):zyV T rw t x Kp = zC6 rw (T t).k (T t).size x Kp:=(rfl)
theorem zxK (b:ByteArray):zC6 rw .str 1 (.v (.string b)) Kp = Kp (.v (.int .i64 b.size)):=by simp [zC6]
theorem zCf (e:TypeId) (fr:Bool) (c:List PV):zC6 rw (.sli e) 1 (.sl fr 1 c) Kp = Kp (.v (.int .i64 (c.length:Int))):=by simp [zC6,zwp]
theorem zxL (e:TypeId) (j ver:Nat):zC6 rw (.sli e) 1 (.own j ver) Kp = zie (rw j) ver Kp:=by
 simp only [zC6,zwp,zie,true_and,Nat.one_pos]
 cases (rw j).kind <;> simp
theorem zmi (ver e:Nat) (fz:Bool) (c:List PV):zie ⟨ver,.sli e 1 fz c⟩ ver Kp = Kp (.v (.int .i64 (c.length:Int))):=by simp [zie]
theorem zmj (ver e:Nat) (c:List PV):zie ⟨ver,.tab e c⟩ ver Kp = Kp (.v (.int .i64 (c.length:Int))):=by simp [zie]
theorem zmk (ver:Nat):zie ⟨ver,.nil⟩ ver Kp = Kp (.v (.int .i64 0)):=by simp [zie]
def iaD (T:Tab) (rw:Nat→Row) (kd:TK) (z:Nat) (x i:PV) (K:PV→Prop):Prop :=
 match i with
 | .v (.int _ n) =>
   0 < z∧match kd with
   | .sli e =>
     (match x with
     | .sl fr sz c=>0 < (T e).size∧sz = (T e).size∧0 ≤ n∧n.toNat * sz < c.length∧K (.eref fr c (n.toNat * sz))
     | .own k ver=>(rw k).ver = ver∧match (rw k).kind with | .sli _ sz _ c=>0 < (T e).size∧sz = (T e).size∧0 ≤ n∧n.toNat * sz < c.length∧K (.ref k ver (n.toNat * sz)) | .tab _ c=>(T e).size = 1∧0 ≤ n∧n.toNat < c.length∧K (.ref k ver n.toNat) | _=>False
     | _=>False)
   | .arr len e=>zkF x = true∧0 < (T e).size∧0 ≤ n∧n < len∧zdh rw x (K (zd2 x (n.toNat * (T e).size)))
   | _=>False
 | _=>False
theorem zFA (t:TypeId) (x i:PV):zbp T rw t x i Kp = iaD T rw (T t).k (T t).size x i Kp:=(rfl)
theorem zFB {e:TypeId} {k:IntKind} (fr:Bool) (c:List PV) (n:Int) (h2:(T e).size = 1) :
 iaD T rw (.sli e) 1 (.sl fr 1 c) (.v (.int k n)) Kp = (0 ≤ n∧n < (c.length:Int)∧Kp (.eref fr c n.toNat)):=by
 simp only [iaD,h2,Nat.mul_one,true_and,Nat.one_pos]
 refine propext ⟨fun ⟨a,b,c⟩=>⟨a,by omega,c⟩,fun ⟨a,b,c⟩=>⟨a,by omega,c⟩⟩
def zvm (r:Row) (j ver:Nat) (n:Int) (K:PV→Prop):Prop:=r.ver = ver∧match r.kind with | .sli _ sz _ c=>sz = 1∧0 ≤ n∧n < (c.length:Int)∧K (.ref j ver n.toNat) | .tab _ c=>0 ≤ n∧n < (c.length:Int)∧K (.ref j ver n.toNat) | _=>False
theorem zCg {e:TypeId} {k:IntKind} (j ver:Nat) (n:Int) (h2:(T e).size = 1) :
 iaD T rw (.sli e) 1 (.own j ver) (.v (.int k n)) Kp = zvm (rw j) j ver n Kp:=by
 simp only [iaD,h2,zvm,true_and,Nat.one_pos]
 cases (rw j).kind <;> simp
 ·rintro _ rfl h
  rw [Nat.mul_one]
  exact ⟨fun ⟨a,b⟩=>⟨by omega,b⟩,fun ⟨a,b⟩=>⟨by omega,b⟩⟩
 ·intros;omega
theorem zxM {e:TypeId} {k:IntKind} (len z j ver off:Nat) (n:Int) (h2:(T e).size = 1):iaD T rw (.arr len e) (z + 1) (.ref j ver off) (.v (.int k n)) Kp = (0 ≤ n∧n < (len:Int)∧zdh rw (.ref j ver off) (kk (Kp (.ref j ver (off + n.toNat))))):=by
 simp only [iaD,h2,Nat.mul_one,Nat.zero_lt_succ,Nat.one_pos,true_and,zkF,zd2,kk]
theorem zCh [zah] {e:TypeId} {k:IntKind} (len z j ver off:Nat) (n:Int) (h2:(T e).size = 1):iaD T rw (.arr len e) (z + 1) (.ref j ver (off + 1)) (.v (.int k n)) Kp = (0 ≤ n∧n < (len:Int)∧zdh rw (.ref j ver (off + 1)) (kk (Kp (.ref j ver (off + 1 + n.toNat))))):=zxM _ _ _ _ _ _ h2
theorem zxN [zah] {e:TypeId} {k:IntKind} (len z j ver:Nat) (n:Int) (h2:(T e).size = 1):iaD T rw (.arr len e) (z + 1) (.ref j ver 0) (.v (.int k n)) Kp = (0 ≤ n∧n < (len:Int)∧zdh rw (.ref j ver 0) (kk (Kp (.ref j ver n.toNat)))):=by
 rw [zxM _ _ _ _ _ _ h2,Nat.zero_add]
theorem zpt (j ver e:Nat) (c:List PV) (n:Int):zvm ⟨ver,.tab e c⟩ j ver n Kp = (0 ≤ n∧n < (c.length:Int)∧Kp (.ref j ver n.toNat)):=by simp [zvm]
theorem zpu (j ver e:Nat) (fz:Bool) (c:List PV) (n:Int):zvm ⟨ver,.sli e 1 fz c⟩ j ver n Kp = (0 ≤ n∧n < (c.length:Int)∧Kp (.ref j ver n.toNat)):=by simp [zvm]
theorem zeN {α:Type} (f:α→PV) (d:α) (xs:List α) {t:TypeId} {m:Md} (o:Nat) (g:α→PV) (hg:∀ x,m.fix (f x) = g x) (h0:(T t).k.agg = false) (h1:0 < (T t).size) :
 ldK T t m (xs.map f) o Kp = (o < xs.length∧Kp (g (xs.getD o d))):=by
 simp only [ldK,h0,h1,true_and,List.length_map]
 refine propext ⟨fun ⟨a,b⟩=>⟨a,?_⟩,fun ⟨a,b⟩=>⟨a,?_⟩⟩
 ·have e:(xs.map f).getD o .junk = f xs[o]:=by simp [List.getD,a]
  have e2:xs.getD o d = xs[o]:=by simp [List.getD,a]
  rw [e,hg] at b
  rw [e2]
  exact b
 ·have e:(xs.map f).getD o .junk = f xs[o]:=by simp [List.getD,a]
  have e2:xs.getD o d = xs[o]:=by simp [List.getD,a]
  rw [e,hg]
  rw [e2] at b
  exact b
theorem zvn (m:Md) (v:Value):m.fix (.v v) = .v v:=by cases m <;> rfl
theorem zCi (fr f:Bool) (sz:Nat) (c:List PV):(Md.set fr).fix (.sl f sz c) = .sl fr sz c:=(rfl)
theorem ztt (p:PV):Md.asis.fix p = p:=(rfl)
theorem zFC [zah] (xs:List Int) {t:TypeId} {m:Md} (o:Nat) (h0:(T t).k.agg = false) (h1:0 < (T t).size):ldK T t m (iL xs) o Kp = (o < xs.length∧Kp (.v (.int .i64 (xs.getD o 0)))) :=
 zeN _ 0 xs o _ (fun x=>zvn m _) h0 h1
theorem zFD [zah] (k:IntKind) (xs:List Int) {t:TypeId} {m:Md} (o:Nat) (h0:(T t).k.agg = false) (h1:0 < (T t).size):ldK T t m (kL k xs) o Kp = (o < xs.length∧Kp (.v (.int k (xs.getD o 0)))) :=
 zeN _ 0 xs o _ (fun x=>zvn m _) h0 h1
theorem zFE [zah] (xs:List Bool) {t:TypeId} {m:Md} (o:Nat) (h0:(T t).k.agg = false) (h1:0 < (T t).size):ldK T t m (bL xs) o Kp = (o < xs.length∧Kp (.v (.bool (xs.getD o false)))) :=
 zeN _ false xs o _ (fun x=>zvn m _) h0 h1
theorem zFF [zah] (xs:List ByteArray) {t:TypeId} {m:Md} (o:Nat) (h0:(T t).k.agg = false) (h1:0 < (T t).size):ldK T t m (sL xs) o Kp = (o < xs.length∧Kp (.v (.string (xs.getD o ⟨#[]⟩)))) :=
 zeN (fun n=>PV.v (.string n)) ⟨#[]⟩ xs o (fun n=>PV.v (.string n)) (fun x=>zvn m _) h0 h1
theorem zCj [zah] (xs:List (List Int)) {t:TypeId} {fr:Bool} (o:Nat) (h0:(T t).k.agg = false) (h1:0 < (T t).size):ldK T t (.set fr) (iLL xs) o Kp = (o < xs.length∧Kp (.sl fr 1 (iL (xs.getD o [])))) :=
 zeN _ [] xs o (fun r=>.sl fr 1 (iL r)) (fun x=>rfl) h0 h1
theorem zFG {t:TypeId} {m:Md} (p:PV) (c:List PV) (h0:(T t).k.agg = false) (h1:0 < (T t).size):ldK T t m (p :: c) 0 Kp = evK (m.fix p) Kp:=by simp [ldK,h0,h1,evK]
theorem zFH {t:TypeId} {m:Md} (p q:PV) (c:List PV) (h0:(T t).k.agg = false) (h1:0 < (T t).size):ldK T t m (p :: q :: c) 1 Kp = evK (m.fix q) Kp:=by simp [ldK,h0,h1,evK]
theorem zFI {t:TypeId} {m:Md} (p q r:PV) (c:List PV) (h0:(T t).k.agg = false) (h1:0 < (T t).size):ldK T t m (p :: q :: r :: c) 2 Kp = evK (m.fix r) Kp:=by simp [ldK,h0,h1,evK]
theorem zFJ {t:TypeId} {m:Md} (p q r s:PV) (c:List PV) (h0:(T t).k.agg = false) (h1:0 < (T t).size):ldK T t m (p :: q :: r :: s :: c) 3 Kp = evK (m.fix s) Kp:=by simp [ldK,h0,h1,evK]
theorem zxO {t:TypeId} {m:Md} (p:PV) (c0:List PV) (o:Nat) (h0:(T t).k.agg = true) (h1:0 < (T t).size):ldK T t m (p :: c0) o Kp = (o + (T t).size ≤ (p :: c0).length∧evK (.ag ((((p :: c0).drop o).take (T t).size).map m.fix)) Kp):=by simp [ldK,h0,h1,evK]
def ztu (T:Tab) (kd:TK) (z:Nat) (f:Nat) (K:Nat→TypeId→Prop):Prop :=
 0 < z∧match kd with | .struct fs=>(match fs[f]? with | some (o,ft)=>0 < (T ft).size∧K o ft | none=>False) | _=>False
def zFK (T:Tab) (x:Option (Nat × TypeId)) (K:Nat→TypeId→Prop):Prop:=match x with | some (o,ft)=>0 < (T ft).size∧K o ft | none=>False
theorem ztv (t:TypeId) (f:Nat) (Kf:Nat→TypeId→Prop):zdI T t f Kf = ztu T (T t).k (T t).size f Kf:=(rfl)
theorem zeO (fs:List (Nat × TypeId)) (z f:Nat) (Kf:Nat→TypeId→Prop):ztu T (.struct fs) (z + 1) f Kf = zFK T fs[f]? Kf:=by simp only [ztu,zFK,Nat.zero_lt_succ,true_and]
theorem zpv (o:Nat) (ft:TypeId) (Kf:Nat→TypeId→Prop) (h:0 < (T ft).size):zFK T (some (o,ft)) Kf = Kf o ft:=by simp [zFK,h]
theorem zgH [zah] (fs:List (Nat × TypeId)) (f:Nat) (Kf:Nat→TypeId→Prop):ztu T (.struct fs) 2 f Kf = zFK T fs[f]? Kf:=zeO fs 1 f Kf
theorem zpw (fr:Bool) (c:List PV) (o:Nat) (A:Prop):zdh rw (.eref fr c o) (kk A) = A:=(rfl)
theorem ztw (f:FuncId) (c:List PV) (A:Prop):zdh rw (.clo f c) (kk A) = A:=(rfl)
def zhv (r:Row) (ver:Nat) (A:Prop):Prop:=r.ver = ver∧r.kind.nd = true∧A
theorem ztx (j ver o:Nat) (A:Prop):zdh rw (.ref j ver o) A = zhv (rw j) ver A:=(rfl)
theorem zj4 (ver:Nat) (bt:TypeId) (c:List PV) (A:Prop):zhv ⟨ver,.box bt c⟩ ver (kk A) = A:=by simp [zhv,RK.nd,kk]
theorem zpx (j v o:Nat):zkF (.ref j v o) = true:=(rfl)
theorem zml (fr:Bool) (c:List PV) (o:Nat):zkF (.eref fr c o) = true:=(rfl)
theorem zpy (j v o d:Nat):zd2 (.ref j v o) d = .ref j v (o + d):=(rfl)
theorem zmm (fr:Bool) (c:List PV) (o d:Nat):zd2 (.eref fr c o) d = .eref fr c (o + d):=(rfl)
def zC7 (kd kd2:TK) (x:PV) (K:PV→Prop):Prop:=match kd,kd2,x with
 | .int _,.int k,.v (.int _ n)=>K (.v (.int k (k.wrap n)))
 | .str,.str,.v (.string s)=>K (.v (.string s))
 | _,_,_=>False
theorem zty {a b:TypeId} {k:IntKind} (n:Int) (h1:(T a).k.isInt = true) (h2:(T b).k.isInt = true) (h3:0 < (T a).size) (h4:0 < (T b).size):zgY T rw a b (.v (.int k n)) Kp = zC7 (T a).k (T b).k (.v (.int k n)) Kp:=by
 revert h1 h2
 simp only [zgY,zC7,h3,h4,true_and]
 cases (T a).k <;> simp [TK.isInt]
 cases (T b).k <;> simp [TK.isInt]
theorem zpz (k1 k2 k:IntKind) (n:Int):zC7 (.int k1) (.int k2) (.v (.int k n)) Kp = Kp (.v (.int k2 (k2.wrap n))):=(rfl)
theorem ztz {a b:TypeId} (n:ByteArray) (h1:(T a).k = .str) (h2:(T b).k = .str) (h3:0 < (T a).size) (h4:0 < (T b).size):zgY T rw a b (.v (.string n)) Kp = Kp (.v (.string n)):=by
 simp [zgY,h1,h2,h3,h4]
theorem zpA {t:TypeId} {k:IntKind} (b:ByteArray) (n:Int) (h0:(T t).k = .str) (h1:0 < (T t).size):zs4 T t (.v (.string b)) (.v (.int k n)) Kp = (0 ≤ n∧n.toNat < b.size∧Kp (.v (.int .u8 ((b.data.toList.getD n.toNat 0).toNat:Int)))):=by
 simp [zs4,h0,h1]
theorem zmn (k k':IntKind) (a b:Int):zcF true (.v (.int k a)) (.v (.int k' b)) Kp = Kp (.v (.int k (if b > a then b else a))):=(rfl)
theorem zmo (k k':IntKind) (a b:Int):zcF false (.v (.int k a)) (.v (.int k' b)) Kp = Kp (.v (.int k (if b < a then b else a))):=(rfl)
def zrp (p:PV) (K:Int→Prop):Prop:=match p with | .v (.int _ n)=>K n | _=>False
theorem ztA (k:IntKind) (n:Int) (Ki:Int→Prop):zrp (.v (.int k n)) Ki = Ki n:=(rfl)
def znq (T:Tab) (rw:Nat→Row) (ev:Operand→PV) (kd:TK) (z:Nat) (x:PV) (lo hi mx:Option Operand) (K:PV→Prop):Prop :=
 0 < z∧match kd with
 | .str=>mx = none∧(match x with
  | .v (.string s)=>zli ev lo 0 fun l=>zli ev hi s.size fun h=>0 ≤ l∧l ≤ h∧h ≤ s.size∧K (.v (.string (s.extract l.toNat h.toNat)))
  | _=>False)
 | .sli e=>zfW rw x fun fr sz c=>0 < (T e).size∧sz = (T e).size ∧
  zli ev lo 0 fun l=>zli ev hi ((c.length / sz:Nat):Int) fun h=>zli ev mx ((c.length / sz:Nat):Int) fun m=>0 ≤ l∧l ≤ h∧h ≤ m∧m ≤ ((c.length / sz:Nat):Int)∧(hi = none→mx = none) ∧
   K (.sl fr sz ((c.take (h.toNat * sz)).drop (l.toNat * sz)))
 | _=>False
theorem zCk (t:TypeId) (ev:Operand→PV) (x:PV) (lo hi mx:Option Operand):zbx T rw ev t x lo hi mx Kp = znq T rw ev (T t).k (T t).size x lo hi mx Kp:=(rfl)
theorem ztB {e:TypeId} (fr:Bool) (c:List PV) (x:Operand) (h2:(T e).size = 1):znq T rw s.ev (.sli e) 1 (.sl fr 1 c) (some x) none none Kp = zrp (s.ev x) (kk fun l=>0 ≤ l∧l ≤ (c.length:Int)∧Kp (.sl fr 1 (c.drop l.toNat))):=by
 simp only [znq,zfW,zli,h2,zrp,kk]
 cases s.ev x <;> simp
 rename_i v
 cases v <;> simp
theorem ztC {e:TypeId} (fr:Bool) (c:List PV) (x:Operand) (h2:(T e).size = 1):znq T rw s.ev (.sli e) 1 (.sl fr 1 c) none (some x) none Kp = zrp (s.ev x) (kk fun l=>0 ≤ l∧l ≤ (c.length:Int)∧Kp (.sl fr 1 (c.take l.toNat))):=by
 simp only [znq,zfW,zli,h2,zrp,kk]
 cases s.ev x <;> simp
 rename_i v
 cases v <;> simp
theorem ztD {e:TypeId} (fr:Bool) (c:List PV) (x y:Operand) (h2:(T e).size = 1):znq T rw s.ev (.sli e) 1 (.sl fr 1 c) (some x) (some y) none Kp = zrp (s.ev x) (kk fun l=>zrp (s.ev y) (kk fun h=>0 ≤ l∧l ≤ h∧h ≤ (c.length:Int)∧Kp (.sl fr 1 ((c.take h.toNat).drop l.toNat)))):=by
 simp only [znq,zfW,zli,h2,zrp,kk]
 cases s.ev x <;> simp
 rename_i v
 cases v <;> simp
 rename_i q n
 cases s.ev y <;> try simp
 rename_i v
 cases v <;> try simp
theorem zxP {e:TypeId} (fr:Bool) (c:List PV) (h2:(T e).size = 1):znq T rw s.ev (.sli e) 1 (.sl fr 1 c) none none none Kp = Kp (.sl fr 1 c):=by
 simp only [znq,zfW,zli,h2]
 simp
theorem ztE (b:ByteArray) (x:Operand):znq T rw s.ev .str 1 (.v (.string b)) (some x) none none Kp = zrp (s.ev x) (kk fun l=>0 ≤ l∧l ≤ (b.size:Int)∧Kp (.v (.string (b.extract l.toNat b.size)))):=by
 simp only [znq,zli,zrp,kk]
 cases s.ev x <;> simp
 rename_i v
 cases v <;> simp
theorem ztF (b:ByteArray) (x:Operand):znq T rw s.ev .str 1 (.v (.string b)) none (some x) none Kp = zrp (s.ev x) (kk fun h=>0 ≤ h∧h ≤ (b.size:Int)∧Kp (.v (.string (b.extract 0 h.toNat)))):=by
 simp only [znq,zli,zrp,kk]
 cases s.ev x <;> simp
 rename_i v
 cases v <;> simp
theorem ztG (b:ByteArray) (x y:Operand):znq T rw s.ev .str 1 (.v (.string b)) (some x) (some y) none Kp = zrp (s.ev x) (kk fun l=>zrp (s.ev y) (kk fun h=>0 ≤ l∧l ≤ h∧h ≤ (b.size:Int)∧Kp (.v (.string (b.extract l.toNat h.toNat))))):=by
 simp only [znq,zli,zrp,kk]
 cases s.ev x <;> simp
 rename_i v
 cases v <;> simp
 rename_i q n
 cases s.ev y <;> try simp
 rename_i v
 cases v <;> try simp
def ztH (T:Tab) (r:Row) (k ver:Nat) (ev:Operand→PV) (e z:Nat) (rw:Nat→Row) (lo hi mx:Option Operand) (K:PV→Prop):Prop :=
 k < 1000000∧r.ver = ver∧match r.kind with | .sli _ sz true c=>znq T rw ev (.sli e) z (.sl true sz c) lo hi mx K | _=>False
theorem zxQ (e z k ver:Nat) (lo hi mx:Option Operand):znq T rw s.ev (.sli e) z (.own k ver) lo hi mx Kp = ztH T (rw k) k ver s.ev e z rw lo hi mx Kp:=by
 have el:(k < lent) = (k < 1000000):=rfl
 simp only [znq,zfW,ztH,el]
 cases (rw k).kind with
 | sli e' sz fz c =>
   cases fz <;> simp
   refine ⟨fun ⟨a,b,c,d,h⟩=>⟨b,c,a,d,h⟩,fun ⟨b,c,a,d,h⟩=>⟨a,b,c,d,h⟩⟩
 | _=>simp
theorem zmp (e z k ver e' sz:Nat) (rw':Nat→Row) (c:List PV) (lo hi mx:Option Operand):ztH T ⟨ver,.sli e' sz true c⟩ k ver s.ev e z rw' lo hi mx Kp = (k < 1000000∧znq T rw' s.ev (.sli e) z (.sl true sz c) lo hi mx Kp):=by simp [ztH]
theorem zxR {Kf:List Nat→PV→Prop} (t:TypeId) (fr:Bool) (z:Nat) (c:List PV) (lo hi mx:Option Operand):zEq T s t (.sl fr z c) lo hi mx (kk Kf) = zbx T s.rw s.ev t (.sl fr z c) lo hi mx (kk fun p=>Kf [] p):=(rfl)
theorem zCl {Kf:List Nat→PV→Prop} (t:TypeId) (x:Value) (lo hi mx:Option Operand):zEq T s t (.v x) lo hi mx (kk Kf) = zbx T s.rw s.ev t (.v x) lo hi mx (kk fun p=>Kf [] p):=(rfl)
def zxS (T:Tab) (s:St) (t:TypeId) (r:Row) (k ver:Nat) (lo hi mx:Option Operand) (K:List Nat→PV→Prop):Prop :=
 match r.kind with
 | .sli _ _ false _=>zbx T (s.freeze [k]).rw s.ev t (.own k ver) lo hi mx (kk fun p=>K [k] p)
 | _=>zbx T s.rw s.ev t (.own k ver) lo hi mx (kk fun p=>K [] p)
theorem ztI {Kf:List Nat→PV→Prop} (t:TypeId) (k ver:Nat) (lo hi mx:Option Operand):zEq T s t (.own k ver) lo hi mx (kk Kf) = zxS T s t (s.rw k) k ver lo hi mx (kk Kf):=(rfl)
theorem zj5 {Kf:List Nat→PV→Prop} (t:TypeId) (v e z:Nat) (c:List PV) (k ver:Nat) (lo hi mx:Option Operand):zxS T s t ⟨v,.sli e z false c⟩ k ver lo hi mx (kk Kf) = zbx T (s.freeze [k]).rw s.ev t (.own k ver) lo hi mx (kk fun p=>Kf [k] p):=(rfl)
theorem zpB {Kf:List Nat→PV→Prop} (t:TypeId) (v e z:Nat) (c:List PV) (k ver:Nat) (lo hi mx:Option Operand):zxS T s t ⟨v,.sli e z true c⟩ k ver lo hi mx (kk Kf) = zbx T s.rw s.ev t (.own k ver) lo hi mx (kk fun p=>Kf [] p):=(rfl)
theorem zxT {Kc:List PV→Prop} (x:Value) (h:x.oneCell' = true):zaZ rw (.v x) Kc = Kc [.v x]:=by simp [zaZ,h]
theorem ztJ {Kc:List PV→Prop} (c:List PV):zaZ rw (.ag c) Kc = Kc c:=(rfl)
theorem ztK {Kc:List PV→Prop} (fr:Bool) (sz:Nat) (c:List PV):zaZ rw (.sl fr sz c) Kc = Kc [.sl fr sz c]:=(rfl)
theorem zpC {Kc:List PV→Prop} (f:FuncId) (c:List PV):zaZ rw (.clo f c) Kc = Kc [.clo f c]:=(rfl)
def zj6 (r:Row) (ver:Nat) (A:Prop):Prop:=r.ver = ver∧r.kind.slice = true∧A
theorem zpD {Kc:List PV→Prop} (j ver:Nat):zaZ rw (.own j ver) Kc = zj6 (rw j) ver (kk (Kc [.own j ver])):=(rfl)
theorem zmq (ver e sz:Nat) (fz:Bool) (c:List PV) (A:Prop):zj6 ⟨ver,.sli e sz fz c⟩ ver (kk A) = A:=by simp [zj6,RK.slice,kk]
theorem zmr (ver e:Nat) (c:List PV) (A:Prop):zj6 ⟨ver,.tab e c⟩ ver (kk A) = A:=by simp [zj6,RK.slice,kk]
theorem zpE {Kc:List PV→Prop} (j ver o:Nat):zaZ rw (.ref j ver o) Kc = zhv (rw j) ver (kk (Kc [.ref j ver o])):=(rfl)
theorem zCm {Kc:List PV→List Nat→Prop} (x:Value) (h:x.oneCell' = true):zcP rw (.v x) Kc = Kc [.v x] []:=by simp [zcP,h]
theorem zxU {Kc:List PV→List Nat→Prop} (sz:Nat) (c:List PV):zcP rw (.sl true sz c) Kc = Kc [.sl false sz c] []:=by simp [zcP]
theorem zxV {Kc:List PV→List Nat→Prop} (c:List PV):zcP rw (.ag c) Kc = ((∀ x ∈ c,isV x = true)∧Kc c []):=(rfl)
def zrq (r:Row) (k ver:Nat) (K:List PV→List Nat→Prop):Prop:=r.ver = ver∧k < lent∧(match r.kind with | .nil=>K [.sl false 1 []] [] | .sli _ sz _ c=>K [.sl false sz c] [k] | _=>False)
theorem ztL {Kc:List PV→List Nat→Prop} (j ver:Nat):zcP rw (.own j ver) Kc = zrq (rw j) j ver Kc:=(rfl)
theorem zj7 {Kc:List PV→List Nat→Prop} (j ver e sz:Nat) (fz:Bool) (c:List PV) (h:j < lent):zrq ⟨ver,.sli e sz fz c⟩ j ver Kc = Kc [.sl false sz c] [j]:=by simp [zrq,h]
def ztM (rw:Nat→Row) (l:List PV):Prop:=∀ p ∈ l,zlh rw p
theorem zxW (rw:Nat→Row) (l:List PV):(∀ p ∈ l,zlh rw p) = ztM rw l:=(rfl)
theorem ztN (rw:Nat→Row):ztM rw [] = True:=by simp [ztM]
theorem zpF (rw:Nat→Row) (p:PV) (l:List PV):ztM rw (p :: l) = (zlh rw p∧ztM rw l):=by simp [ztM]
def zeP (s:St) (z j ver off:Nat) (r:Row) (x:PV) (K:St→Prop):Prop:=0 < z∧r.ver = ver∧match r.kind with
 | .box bt c=>zaZ s.rw x fun new=>new.length = z∧off + new.length ≤ c.length∧ztM s.rw new∧K (s.row j ⟨ver,.box bt (spl c off new)⟩)
 | .sli e sz false c=>zcP s.rw x fun new fz=>new.length = z∧off + new.length ≤ c.length∧j ∉ fz∧K ((s.freeze fz).row j ⟨ver,.sli e sz false (spl c off new)⟩)
 | .tab e c=>zaZ s.rw x fun new=>new.length = z∧off + new.length ≤ c.length∧ztM s.rw new∧K (s.row j ⟨ver,.tab e (spl c off new)⟩)
 | _=>False
theorem zpG (j ver off e:Nat) (c:List PV) (x:PV):zeP s 1 j ver off ⟨ver,.tab e c⟩ x K = zaZ s.rw x (kk fun new=>new.length = 1∧off + new.length ≤ c.length∧ztM s.rw new∧K (s.row j ⟨ver,.tab e (spl c off new)⟩)):=by
 simp only [zeP,Nat.one_pos,true_and,kk]
theorem ztO (t:TypeId) (j ver off:Nat) (x:PV):zqw T s t (.ref j ver off) x K = zeP s (T t).size j ver off (s.rw j) x K:=(rfl)
theorem zj8 [zah]:s.freeze [] = s:=St.freeze_nil s
theorem zpH (j ver off e sz:Nat) (c:List PV) (x:PV):zeP s 1 j ver off ⟨ver,.sli e sz false c⟩ x K = zcP s.rw x (kk fun new fz=>new.length = 1∧off + new.length ≤ c.length∧j ∉ fz∧K ((s.freeze fz).row j ⟨ver,.sli e sz false (spl c off new)⟩)):=by
 simp only [zeP,Nat.one_pos,true_and,kk]
theorem zgI (z j ver off:Nat) (bt:TypeId) (c:List PV) (x:PV):zeP s (z + 1) j ver off ⟨ver,.box bt c⟩ x K = zaZ s.rw x (kk fun new=>new.length = z + 1∧off + new.length ≤ c.length∧ztM s.rw new∧K (s.row j ⟨ver,.box bt (spl c off new)⟩)):=by
 simp only [zeP,Nat.zero_lt_succ,true_and,kk]
theorem zms [zah] (j ver off:Nat) (bt:TypeId) (c:List PV) (x:PV):zeP s 1 j ver off ⟨ver,.box bt c⟩ x K = zaZ s.rw x (kk fun new=>new.length = 1∧off + new.length ≤ c.length∧ztM s.rw new∧K (s.row j ⟨ver,.box bt (spl c off new)⟩)):=zgI 0 j ver off bt c x
theorem zmt [zah] (j ver off:Nat) (bt:TypeId) (c:List PV) (x:PV):zeP s 2 j ver off ⟨ver,.box bt c⟩ x K = zaZ s.rw x (kk fun new=>new.length = 2∧off + new.length ≤ c.length∧ztM s.rw new∧K (s.row j ⟨ver,.box bt (spl c off new)⟩)):=zgI 1 j ver off bt c x
theorem zCn (rw:Nat→Row) (v:Value):zlh rw (.v v) = (v.oneCell' = true):=(rfl)
theorem zxX (rw:Nat→Row) (fr:Bool) (z:Nat) (c:List PV):zlh rw (.sl fr z c) = True:=(rfl)
theorem zpI (rw:Nat→Row) (fr:Bool) (c:List PV) (o:Nat):zlh rw (.eref fr c o) = True:=(rfl)
theorem ztP (rw:Nat→Row) (f:FuncId) (c:List PV):zlh rw (.clo f c) = True:=(rfl)
theorem ztQ (rw:Nat→Row) (j v:Nat):zlh rw (.own j v) = zj6 (rw j) v (kk True):=by simp [zlh,zj6,kk]
theorem ztR (rw:Nat→Row) (j v o:Nat):zlh rw (.ref j v o) = zhv (rw j) v (kk True):=by simp [zlh,zhv,kk]
theorem zmu [zah] (j ver off:Nat) (bt:TypeId) (c:List PV) (x:PV):zeP s 3 j ver off ⟨ver,.box bt c⟩ x K = zaZ s.rw x (kk fun new=>new.length = 3∧off + new.length ≤ c.length∧ztM s.rw new∧K (s.row j ⟨ver,.box bt (spl c off new)⟩)):=zgI 2 j ver off bt c x
theorem zmv [zah] (j ver off:Nat) (bt:TypeId) (c:List PV) (x:PV):zeP s 4 j ver off ⟨ver,.box bt c⟩ x K = zaZ s.rw x (kk fun new=>new.length = 4∧off + new.length ≤ c.length∧ztM s.rw new∧K (s.row j ⟨ver,.box bt (spl c off new)⟩)):=zgI 3 j ver off bt c x
def zj9 (T:Tab) (rw:Nat→Row) (y:PV) (K:List PV→Prop):Prop:=slK rw y fun fr sz news=>sz = 1∧((∀ p ∈ news,isV p = true) ∨ (fr = true∧∀ p ∈ news,zrd p = true))∧K news
def zka (T:Tab) (s:St) (d j ver e:Nat) (r:Row) (news:List PV) (K:St→Prop):Prop:=r.ver = ver∧match r.kind with
 | .nil=>news.length * (T e).bytes ≤ 140737488355328∧K (zc4 s d j (.sli e 1 false news))
 | .sli e' sz' false c=>e' = e∧sz' = 1∧(c.length + news.length) * (T e).bytes ≤ 140737488355328∧K (zc4 s d j (.sli e 1 false (c ++ news)))
 | _=>False
def zFL (T:Tab) (s:St) (d e:Nat) (x:PV) (news:List PV) (K:St→Prop):Prop:=match x with
 | .v u=>zdR u = true∧news.length * (T e).bytes ≤ 140737488355328∧K (zcQ s d (.sli e 1 false news) (fun v=>.own d v))
 | .own j ver=>zka T s d j ver e (s.rw j) news K
 | _=>False
def zGG (T:Tab) (s:St) (d:Nat) (kd:TK) (z:Nat) (x y:PV) (K:St→Prop):Prop :=
 0 < z∧match kd with
 | .sli e=>0 < (T e).size∧0 < (T e).bytes∧slK s.rw y fun fr sz news=>sz = (T e).size∧((∀ p ∈ news,isV p = true) ∨ (fr = true∧∀ p ∈ news,zrd p = true)) ∧
  (match x with
  | .v u=>zdR u = true∧news.length * (T e).bytes ≤ 140737488355328∧K (zcQ s d (.sli e (T e).size false news) (fun v=>.own d v))
  | .own k ver=>(s.rw k).ver = ver∧(match (s.rw k).kind with
   | .nil=>news.length * (T e).bytes ≤ 140737488355328∧K (zc4 s d k (.sli e (T e).size false news))
   | .sli e' sz' false c=>e' = e∧sz' = (T e).size∧(c.length + news.length) * (T e).bytes ≤ 140737488355328∧K (zc4 s d k (.sli e (T e).size false (c ++ news)))
   | _=>False)
  | _=>False)
 | _=>False
theorem zpJ (d:Nat) (t:TypeId) (x y:PV):zky T s d t t x y K = zGG T s d (T t).k (T t).size x y K:=propext ⟨fun h=>h.2,fun h=>⟨rfl,h⟩⟩
theorem ztS {d e:Nat} (x y:PV) (h2:(T e).size = 1) (h3:0 < (T e).bytes):zGG T s d (.sli e) 1 x y K = zj9 T s.rw y (kk fun news=>zFL T s d e x news (kk K)):=by
 unfold zGG zj9
 simp only [h2,h3,true_and,kk,Nat.one_pos]
 unfold zFL zka
 cases x <;> rfl
theorem ztT (d e j ver:Nat) (news:List PV):zFL T s d e (.own j ver) news K = zka T s d j ver e (s.rw j) news K:=(rfl)
theorem ztU (d e:Nat) (news:List PV):zFL T s d e (.v (.slice none 0 0)) news K = (news.length * (T e).bytes ≤ 140737488355328∧K (zcQ s d (.sli e 1 false news) (fun v=>.own d v))):=by simp [zFL,zdR]
theorem zmw (d j ver e:Nat) (c news:List PV):zka T s d j ver e ⟨ver,.sli e 1 false c⟩ news K = ((c.length + news.length) * (T e).bytes ≤ 140737488355328∧K (zc4 s d j (.sli e 1 false (c ++ news)))):=by simp [zka]
theorem zmx (d j ver e:Nat) (news:List PV):zka T s d j ver e ⟨ver,.nil⟩ news K = (news.length * (T e).bytes ≤ 140737488355328∧K (zc4 s d j (.sli e 1 false news))):=by simp [zka]
variable {Kc:List PV→Prop}
theorem zxY (c:List PV) (h:∀ p ∈ c,isV p = true) (fr:Bool):zj9 T rw (.sl fr 1 c) Kc = Kc c:=by
 have e:(∀ p ∈ c,isV p = true) = True:=eq_true h
 simp only [zj9,slK,e,true_or,true_and]
theorem zxZ [zah] (xs:List Int) (fr:Bool):zj9 T rw (.sl fr 1 (iL xs)) Kc = Kc (iL xs):=zxY _ (by simpa using zwG xs) fr
theorem zx0 [zah] (k:IntKind) (xs:List Int) (fr:Bool):zj9 T rw (.sl fr 1 (kL k xs)) Kc = Kc (kL k xs):=zxY _ (by simpa using zFg k xs) fr
theorem zx1 [zah] (xs:List ByteArray) (fr:Bool):zj9 T rw (.sl fr 1 (sL xs)) Kc = Kc (sL xs):=zxY _ (by simpa using zFh xs) fr
theorem ztV [zah] (xs:List (List Int)):zj9 T rw (.sl true 1 (iLL xs)) Kc = Kc (iLL xs):=by
 have:∀ p ∈ iLL xs,zrd p = true:=by simpa using zAr xs
 simp only [zj9,slK,true_and,true_or,eq_true this,or_true]
def zvo (c:List PV):Prop:=∀ p ∈ c,zrd p = true
def zvp (r:Row) (ver:Nat) (K:List PV→Prop):Prop:=r.ver = ver∧match r.kind with | .nil=>K [] | .sli _ sz _ c=>sz = 1∧zvo c∧K c | _=>False
theorem zpK (j ver:Nat):zj9 T rw (.own j ver) Kc = zvp (rw j) ver Kc:=by
 unfold zj9 slK zvp
 dsimp only
 generalize (rw j).kind = kd
 cases kd with
 | sli e sz fz c =>
   dsimp only
   refine propext ⟨fun ⟨a,b,h,d⟩=>⟨a,b,?_,d⟩,fun ⟨a,b,h,d⟩=>⟨a,b,.inr ⟨rfl,h⟩,d⟩⟩
   rcases h with h | h
   ·intro p hp
    have:=h p hp
    cases p <;> simp [isV] at this
    exact this
   ·exact h.2
 | nil=>simp
 | _=>simp
theorem zpL (ver e:Nat) (fz:Bool) (c:List PV):zvp ⟨ver,.sli e 1 fz c⟩ ver Kc = (zvo c∧Kc c):=by simp [zvp]
theorem zpM (ver:Nat):zvp ⟨ver,.nil⟩ ver Kc = Kc []:=by simp [zvp]
theorem ztW:zvo [] = True:=by simp [zvo]
theorem zx2 (xs:List Int):zvo (iL xs) = True:=by simp [zvo,iL,zrd,Value.oneCell']
theorem zx3 (k:IntKind) (xs:List Int):zvo (kL k xs) = True:=by simp [zvo,kL,zrd,Value.oneCell']
theorem zx4 (xs:List ByteArray):zvo (sL xs) = True:=by simp [zvo,sL,zrd,Value.oneCell']
theorem zx5 (xs:List Bool):zvo (bL xs) = True:=eq_true fun p hp=>by
 simp only [bL,List.mem_map] at hp
 obtain ⟨x,_,rfl⟩:=hp
 rfl
theorem ztX (xs:List (List Int)):zvo (iLL xs) = True:=by simp [zvo,iLL,zrd]
theorem zpN (j:Nat):[j].Nodup = True:=by simp
theorem zpO (i j:Nat):[i,j].Nodup = (i ≠ j):=by simp
theorem zx6 (j:Nat):(j < lent) = (j < 1000000):=(rfl)
theorem zFM (v u:Value) {Kn:List Nat→Prop}:znw rw (.v v) (.im (.v u)) Kn = (PV.v u = PV.v v∧Kn []):=(rfl)
def zpP (r:Row) (j ver e sz:Nat) (c:List PV) (K:List Nat→Prop):Prop:=j < lent∧r.ver = ver∧(match r.kind with
 | .nil=>c = []∧K []
 | .sli e' sz' false c'=>e' = e∧sz' = sz∧c' = c∧K [j]
 | _=>False)
theorem zx7 (j ver e sz:Nat) (c:List PV) {Kn:List Nat→Prop}:znw rw (.own j ver) (.fr e sz c) Kn = zpP (rw j) j ver e sz c Kn:=(rfl)
theorem zmy (j ver e sz:Nat) (c c':List PV) {Kn:List Nat→Prop} (h:j < lent):zpP ⟨ver,.sli e sz false c'⟩ j ver e sz c Kn = (c' = c∧Kn [j]):=by simp [zpP,h]
theorem ztY {t:Nat} {rv:RV}:zvq T s [.tmp t] rv = znw s.rw (s.sl t) rv List.Nodup:=(rfl)
theorem zpQ {a:Nat} {t:TypeId} {rv:RV}:zvq T s [.cell a t] rv = zre s.rw (s.sl a) (kk fun m c off=>ldK T t m c off (kk fun p=>znw s.rw p rv List.Nodup)):=(rfl)
theorem ztZ {r1 r2:ResultVar} {rv:RV}:zvq T s [r1,r2] rv = zwm T s [r1,r2] (kk fun ps=>znw s.rw (.tup ps) rv List.Nodup):=(rfl)
theorem zmz {r1 r2 r3:ResultVar} {rv:RV}:zvq T s [r1,r2,r3] rv = zwm T s [r1,r2,r3] (kk fun ps=>znw s.rw (.tup ps) rv List.Nodup):=(rfl)
theorem zt0 (Kr:List PV→Prop):zwm T s [] (kk Kr) = Kr []:=(rfl)
theorem zt1 (t:Nat) (rs:List ResultVar) (Kr:List PV→Prop):zwm T s (.tmp t :: rs) (kk Kr) = evK (s.sl t) (kk fun p=>zwm T s rs (kk fun ps=>Kr (p :: ps))):=(rfl)
theorem zpR (a:Nat) (t:TypeId) (rs:List ResultVar) (Kr:List PV→Prop):zwm T s (.cell a t :: rs) (kk Kr) = zre s.rw (s.sl a) (kk fun m c off=>ldK T t m c off (kk fun p=>zwm T s rs (kk fun ps=>Kr (p :: ps)))):=(rfl)
theorem zt2 (e sz:Nat) (c:List PV) {Kn:List Nat→Prop}:znw rw (.v (.slice none 0 0)) (.fr e sz c) Kn = (c = []∧Kn []):=by simp [znw,ziE,zdR]
theorem zt3 (e sz:Nat) (c:List PV) {Kn:List Nat→Prop}:zyj rw (.v (.slice none 0 0)) (.fr e sz c) Kn = (c = []∧Kn []):=by simp [zyj,ziE,zdR]
theorem zt4 (e sz:Nat) (c:List PV) {Kn:List Nat→Prop}:ziE rw (.v (.slice none 0 0)) (.fr e sz c) Kn = (c = []∧Kn []):=by simp [ziE,zdR]
theorem zmA [zah] (d e sz:Nat) (y:Value) (c:List PV):zal s d (.tup [.ag [.fr e sz c],.im (.v y)]) = (s.row d ⟨(s.rw d).ver + 1,.sli e sz false c⟩).put (some d) (.tup [.ag [.own d ((s.rw d).ver + 1)],.v y]):=by
 unfold zal
 simp [zbN,zct,leaves,zax,zaY,zbT,zbK,zbh,zaj,St.row,zhF]
 rfl
theorem zmB [zah] (d e sz:Nat) (x y:Value) (c:List PV):zal s d (.tup [.ag [.im (.v x),.fr e sz c],.im (.v y)]) = (s.row d ⟨(s.rw d).ver + 1,.sli e sz false c⟩).put (some d) (.tup [.ag [.v x,.own d ((s.rw d).ver + 1)],.v y]):=by
 unfold zal
 simp [zbN,zct,leaves,zax,zaY,zbT,zbK,zbh,zaj,St.row,zhF]
 rfl
theorem zpS [zah] (d e sz:Nat) (y:Value) (c:List PV):zal s d (.tup [.ag [.fr e sz c],.im (.v y)]) = (s.row d ⟨(s.rw d).ver + 1,.sli e sz false c⟩).put (some d) (.tup [.ag [.own d ((s.rw d).ver + 1)],.v y]):=by
 unfold zal
 simp [zbN,zct,leaves,zax,zaY,zbT,zbK,zbh,zaj,St.row,zhF]
 rfl
theorem zdD (d:Nat) (v:Value):zal s d (.im (.v v)) = s.put (some d) (.v v):=by
 unfold zal
 simp [leaves,zax,zaY,zbK,zhF]
theorem zt5 [zah] {f:FuncId} {raw lent:List PV} {k d:Nat} {x:Value} {r:Row} {Ke:Ent→St→Prop} {Ka:RV→Prop} {us:Dm s} {u:Dm Ke} (rd:List Nat) (h:∀ s':St,s'.rw k = s.rw k→(∀ a ∈ rd,s'.rw a = s.rw a)→∀ K':St→Prop,K' ((s'.row k r).put (some d) (.v x))→askG P s' f raw (some d) K') (hd:d % 1000 ≠ k % 1000)
 (hk:Ke ⟨rd,.ids [d,k]⟩ ((s.row k r).put (some d) (.v x))):zlg P f lent Ka (zC4 P f raw d (kk s us) (kk Ke u)) :=
 zAv (x:=.im (.v x)) (r:=r) rd (fun s' h1 h2 K' hk'=>h s' h1 h2 K' (by rw [zdD] at hk';exact hk')) hd (by rw [zdD];exact hk)
theorem zi8 (d e sz:Nat) (c:List PV):zal s d (.fr e sz c) = (s.row d ⟨(s.rw d).ver + 1,.sli e sz false c⟩).put (some d) (.own d ((s.rw d).ver + 1)):=by
 unfold zal
 simp [leaves,zax,zaY,zbK,zaj,St.row]
 rfl
theorem zpT [zah] (d e sz:Nat) (c:List PV):zal s d (.ag [.fr e sz c]) = (s.row d ⟨(s.rw d).ver + 1,.sli e sz false c⟩).put (some d) (.ag [.own d ((s.rw d).ver + 1)]):=by
 unfold zal
 simp [zct,leaves,zax,zaY,zbT,zbh,zbK,zaj,St.row]
 rfl
theorem zpU [zah] (d e sz:Nat) (x:Value) (c:List PV):zal s d (.ag [.im (.v x),.fr e sz c]) = (s.row d ⟨(s.rw d).ver + 1,.sli e sz false c⟩).put (some d) (.ag [.v x,.own d ((s.rw d).ver + 1)]):=by
 unfold zal
 simp [zct,leaves,zax,zaY,zbT,zbh,zbK,zaj,St.row,zhF]
 rfl
theorem zpV [zah] (d e sz e2 sz2:Nat) (x y:Value) (c c2:List PV):zal s d (.ag [.im (.v x),.fr e sz c,.im (.v y),.fr e2 sz2 c2]) =
 ((s.row (d + 1000) ⟨(s.rw (d + 1000)).ver + 1,.sli e2 sz2 false c2⟩).row d ⟨(s.rw d).ver + 1,.sli e sz false c⟩).put (some d) (.ag [.v x,.own d ((s.rw d).ver + 1),.v y,.own (d + 1000) ((s.rw (d + 1000)).ver + 1)]):=by
 unfold zal
 simp [zct,leaves,zax,zaY,zbT,zbh,zbK,zaj,St.row,zhF]
 rfl
theorem zpW [zah] (d:Nat) (x y:Value):zal s d (.tup [.im (.v x),.im (.v y)]) = s.put (some d) (.tup [.v x,.v y]):=by
 unfold zal
 simp [zbN,leaves,zax,zaY,zbT,zbh,zbK,zaj,St.row,zhF]
theorem zpX [zah] (d e sz:Nat) (c:List PV) (y:Value):zal s d (.tup [.fr e sz c,.im (.v y)]) = (s.row d ⟨(s.rw d).ver + 1,.sli e sz false c⟩).put (some d) (.tup [.own d ((s.rw d).ver + 1),.v y]):=by
 unfold zal
 simp [zbN,leaves,zax,zaY,zbT,zbh,zbK,zaj,St.row,zhF]
 rfl
theorem imm_ag [zah] (l:List RV):(RV.ag l).imm = .ag (l.map RV.imm):=RV.imm_ag l
theorem imm_tup [zah] (l:List RV):(RV.tup l).imm = .tup (l.map RV.imm):=RV.imm_tup l
theorem zx8 (ps:List PV) (l:List RV) {Kn:List Nat→Prop}:znw rw (.ag ps) (.ag l) Kn = zwn (zyj rw) ps l Kn:=(rfl)
theorem zt6 (ps:List PV) (l:List RV) {Kn:List Nat→Prop}:znw rw (.tup ps) (.tup l) Kn = zwn (zyj rw) ps l Kn:=(rfl)
theorem zx9 (ps:List PV) (l:List RV) {Kn:List Nat→Prop}:zyj rw (.ag ps) (.ag l) Kn = zwn (ziE rw) ps l Kn:=(rfl)
theorem zt7 (f:PV→RV→(List Nat→Prop)→Prop) {Kn:List Nat→Prop}:zwn f [] [] Kn = Kn []:=(rfl)
theorem zpY (f:PV→RV→(List Nat→Prop)→Prop) (p:PV) (ps:List PV) (r:RV) (rs:List RV) {Kn:List Nat→Prop}:zwn f (p :: ps) (r :: rs) Kn = f p r (kk fun a=>zwn f ps rs (kk fun b=>Kn (a ++ b))):=(rfl)
theorem zCo (v u:Value) {Kn:List Nat→Prop}:zyj rw (.v v) (.im (.v u)) Kn = (PV.v u = PV.v v∧Kn []):=(rfl)
theorem zmC (e e2:Nat) (rows:List (List PV)) {Kn:List Nat→Prop}:ziE rw (.v (.slice none 0 0)) (.tb e e2 rows) (kk Kn) = (rows = []∧Kn []):=by simp [ziE,zdR,kk]
theorem zCp (v u:Value) {Kn:List Nat→Prop}:ziE rw (.v v) (.im (.v u)) Kn = (PV.v u = PV.v v∧Kn []):=(rfl)
theorem zt8 (j ver e sz:Nat) (c:List PV) {Kn:List Nat→Prop}:zyj rw (.own j ver) (.fr e sz c) Kn = zpP (rw j) j ver e sz c Kn:=(rfl)
theorem zt9 (j ver e sz:Nat) (c:List PV) {Kn:List Nat→Prop}:ziE rw (.own j ver) (.fr e sz c) Kn = zpP (rw j) j ver e sz c Kn:=(rfl)
theorem zCq (v:Value):(RV.im (.v v)).imm = .v v:=by simp [RV.imm,zhF]
theorem zCr (e sz:Nat) (c:List PV):(RV.fr e sz c).imm = .sl true sz c:=by simp [RV.imm]
theorem zua (rw:Nat→Row) (n:Nat) (k:IntKind) (x:Int):zcp rw (n + 1) (.v (.int k x)) = .v (.int k x):=(rfl)
theorem zpZ (rw:Nat→Row) (n:Nat) (x:Bool):zcp rw (n + 1) (.v (.bool x)) = .v (.bool x):=(rfl)
theorem zkb (rw:Nat→Row) (n:Nat) (x:ByteArray):zcp rw (n + 1) (.v (.string x)) = .v (.string x):=(rfl)
theorem zub (rw:Nat→Row) (n:Nat):zcp rw (n + 1) (.v (.slice none 0 0)) = .sl false 1 []:=(rfl)
theorem zya (rw:Nat→Row) (n:Nat) (fr:Bool) (sz:Nat) (c:List PV):zcp rw (n + 1) (.sl fr sz c) = .sl false sz c:=(rfl)
theorem zyb (rw:Nat→Row) (n:Nat) (c:List PV):zcp rw (n + 1) (.ag c) = .ag (c.map (zcp rw n)):=(rfl)
theorem zp0 (rw:Nat→Row) (n:Nat) (fr:Bool) (c:List PV) (o:Nat):zcp rw (n + 1) (.eref fr c o) = .eref false c o:=(rfl)
def zkc (rw:Nat→Row) (n:Nat) (r:Row) (ver off:Nat):PV:=if r.ver = ver then (match r.kind with | .box _ c=>.eref false (c.map (zcp rw n)) off | .sli _ _ _ c=>.eref false c off | _=>.junk) else .junk
theorem zuc (rw:Nat→Row) (n j ver off:Nat):zcp rw (n + 1) (.ref j ver off) = zkc rw n (rw j) ver off:=(rfl)
theorem zkd (rw:Nat→Row) (n ver off:Nat) (t:TypeId) (c:List PV):zkc rw n ⟨ver,.box t c⟩ ver off = .eref false (c.map (zcp rw n)) off:=by simp [zkc]
theorem zke (rw:Nat→Row) (n ver off e z:Nat) (fz:Bool) (c:List PV):zkc rw n ⟨ver,.sli e z fz c⟩ ver off = .eref false c off:=by simp [zkc]
theorem zud (rw:Nat→Row) (n:Nat) (f:FuncId) (c:List PV):zcp rw (n + 1) (.clo f c) = .clo f (c.map (zcp rw n)):=(rfl)
def zfT (rw:Nat→Row) (n:Nat) (r:Row) (ver:Nat):PV:=if r.ver = ver then (match r.kind with | .nil=>.sl false 1 [] | .sli _ sz _ c=>.sl false sz c | .tab _ c=>.sl false 1 (c.map (zls rw)) | _=>.junk) else .junk
theorem zue (rw:Nat→Row) (n j ver:Nat):zcp rw (n + 1) (.own j ver) = zfT rw n (rw j) ver:=(rfl)
theorem zkf (rw:Nat→Row) (n:Nat) (ver e:Nat) (c:List PV):zfT rw n ⟨ver,.tab e c⟩ ver = .sl false 1 (c.map (zls rw)):=by simp [zfT]
theorem zkg (rw:Nat→Row) (n:Nat) (ver e sz:Nat) (fz:Bool) (c:List PV):zfT rw n ⟨ver,.sli e sz fz c⟩ ver = .sl false sz c:=by simp [zfT]
theorem zkh (rw:Nat→Row) (n:Nat) (ver:Nat):zfT rw n ⟨ver,.nil⟩ ver = .sl false 1 []:=by simp [zfT]
end
def zyc:PV→Prop | .sl _ sz c=>c.length ≤ 9223372036854775807 * sz | _=>True
def zki:PV→Prop | .sl _ sz c=>c.length ≤ 9223372036854775807 * sz∧∀ p ∈ c,zyc p | .ag c=>∀ p ∈ c,zyc p | .eref _ c _=>∀ p ∈ c,zyc p | _=>True
def znr:PV→Prop | .sl _ sz c=>c.length ≤ 9223372036854775807 * sz∧∀ p ∈ c,zki p | .ag c=>∀ p ∈ c,zki p | .eref _ c _=>∀ p ∈ c,zki p | .clo _ c=>∀ p ∈ c,zki p | _=>True
def zAw:List PV→Prop | []=>True | p :: ps=>znr p∧zAw ps
theorem zns {w:World} {E:Env} {lo:Nat} {p:PV} {x:Value} (h:Rep w E lo p x):zyc p:=by
 cases h <;> try trivial
 next sz len cap cells a cs hl hc hm hr hh =>
  show cells.length ≤ 9223372036854775807 * sz
  rw [hl]
  exact Nat.mul_le_mul_right _ (Nat.le_trans hc hm)
theorem zi9 [zah] {w:World} {E:Env} {lo:Nat} {p:PV} {x:Value} (h:Rep w E lo p x):zki p:=by
 cases h <;> try trivial
 case sl fr sz len cap cells a cs hl hc hm hr hh =>
  refine ⟨?_,fun p hp=>?_⟩
  ·rw [hl];exact Nat.mul_le_mul_right _ (Nat.le_trans hc hm)
  ·obtain ⟨i,hi,rfl⟩:=List.getElem_of_mem hp;exact zns (hh i hi)
 case eref fr cells off b o cs hr hh=>intro p hp;obtain ⟨i,hi,rfl⟩:=List.getElem_of_mem hp;exact zns (hh i hi)
 case ag cells vs hl hh=>intro p hp;obtain ⟨i,hi,rfl⟩:=List.getElem_of_mem hp;exact zns (hh i hi (by omega))
theorem zAx [zah] {w:World} {E:Env} {lo:Nat} {p:PV} {x:Value} (h:Rep w E lo p x):znr p:=by
 cases h <;> try trivial
 case sl fr sz len cap cells a cs hl hc hm hr hh =>
  refine ⟨?_,fun p hp=>?_⟩
  ·rw [hl];exact Nat.mul_le_mul_right _ (Nat.le_trans hc hm)
  ·obtain ⟨i,hi,rfl⟩:=List.getElem_of_mem hp;exact zi9 (hh i hi)
 case eref fr cells off b o cs hr hh=>intro p hp;obtain ⟨i,hi,rfl⟩:=List.getElem_of_mem hp;exact zi9 (hh i hi)
 case ag cells vs hl hh=>intro p hp;obtain ⟨i,hi,rfl⟩:=List.getElem_of_mem hp;exact zi9 (hh i hi (by omega))
 case clo f cells vs hl hh=>intro p hp;obtain ⟨i,hi,rfl⟩:=List.getElem_of_mem hp;exact zi9 (hh i hi (by omega))
theorem zyd [zah] {w:World} {E:Env} {lo:Nat} {ps:List PV} {vs:List Value} (h:zbm w E lo ps vs):zAw ps:=by
 have:∀ p ∈ ps,znr p:=by
  intro p hp
  obtain ⟨i,hi,rfl⟩:=List.getElem_of_mem hp
  exact zAx (h.2 i hi (by rw [← h.1];exact hi))
 clear h
 induction ps with
 | nil=>trivial
 | cons p ps ih=>exact ⟨this p (by simp),ih fun q hq=>this q (by simp [hq])⟩
theorem za7:zAw [] = True:=(rfl)
theorem zaK (p:PV) (ps:List PV):zAw (p :: ps) = (znr p∧zAw ps):=(rfl)
theorem zdb (x:Value):znr (.v x) = True:=(rfl)
theorem zcC (x:Value):zki (.v x) = True:=(rfl)
theorem zbR (fr:Bool) (xs:List Int):zki (.sl fr 1 (iL xs)) = (xs.length ≤ 9223372036854775807):=by simp [zki,zyc,iL]
theorem zcr (fr:Bool) (xs:List Int):znr (.sl fr 1 (iL xs)) = (xs.length ≤ 9223372036854775807):=by simp [znr,zki,iL]
theorem zbv (x y:PV):znr (.ag [x,y]) = (zki x∧zki y):=by simp [znr]
theorem AC.go [zah] {f:FuncId} {fn:Func} {c:Code} {rs:List ResultVar} {args:List PV} {rv:RV} (hT:T.Ok P) (hm:P.follows .mixedOrders = true) (hf:P.funcs[f]? = some fn) (hname:(fn.name == "runtime.NumGoroutine") = false)
 (hb:fn.body = some c) (hr:fn.results.toList = rs) (hfit:(fits fn.ntmps c && decide (args.length ≤ fn.ntmps) && decide (fn.results.toList.length ≤ 4)) = true) (h:zAw args→cwp P T c (zGs T rs rv) (St.init args)):AC P f args rv:=by
 subst hr
 refine ⟨⟨fn,hf,hname,by rw [hb];rfl⟩,fun w vals hphi hv=>?_⟩
 exact (AC.of hT hm hf hname hb hfit (h (zyd hv))).2 w vals hphi hv
theorem AM.go [zah] {f:FuncId} {fn:Func} {c:Code} {rs:List ResultVar} {args:List PV} {ins:List LR} {outs:List (List PV)} {x:Value} (hT:T.Ok P) (hm:P.follows .mixedOrders = true) (hf:P.funcs[f]? = some fn) (hname:(fn.name == "runtime.NumGoroutine") = false)
 (hb:fn.body = some c) (hr:fn.results.toList = rs) (hfit:(fits fn.ntmps c && decide (args.length ≤ fn.ntmps) && decide (fn.results.toList.length ≤ 4)) = true) (hi:∀ r ∈ ins,zcn r.c) (ho:∀ c ∈ outs,zcn c) (hlen:outs.length = ins.length)
 (h:(∀ r ∈ ins,r.c.length ≤ 9223372036854775807 * r.sz)→cwp P T c (zGr T rs ins outs x) (St.initM args ins)):AM P f args ins outs x:=by
 subst hr
 exact AM.of hT hm hf hname hb hfit hi ho hlen h
theorem zed [zah] (xs:List Int):zcn (iL xs):=by have:=zwG xs;unfold zcn;rw [this];trivial
theorem zja (args:List PV) (ins:List LR) (i:Nat):(St.initM args ins).sl i = args.getD i .junk:=(rfl)
theorem zjb (args:List PV) (ins:List LR) (i:Nat):(St.initM args ins).rw i = inR ins i:=(rfl)
theorem zuf (ins:List LR) (k:Nat) (h:k < 1000000):inR ins k = ⟨0,.dead⟩:=by
 unfold inR;rw [if_neg (by show ¬ (1000000 ≤ k);omega)]
theorem zAy [zah] (e sz:Nat) (c:List PV) (l:List LR):inR (⟨e,sz,c⟩ :: l) 1000000 = ⟨1,.sli e sz false c⟩:=zqs (ins:=⟨e,sz,c⟩ :: l) (i:=0) rfl
theorem zAz [zah] (r:LR) (e sz:Nat) (c:List PV) (l:List LR):inR (r :: ⟨e,sz,c⟩ :: l) 1000001 = ⟨1,.sli e sz false c⟩:=zqs (ins:=r :: ⟨e,sz,c⟩ :: l) (i:=1) rfl
theorem zug (rs:List ResultVar) (ins:List LR) (outs:List (List PV)) (x:Value):zGr T rs ins outs x .ret s = zC8 T s rs ins outs x:=(rfl)
theorem zp1 (rs:List ResultVar) (ins:List LR) (outs:List (List PV)) (x:Value):zGr T rs ins outs x .norm s = zC8 T s rs ins outs x:=(rfl)
theorem zuh (r:Nat) (ins:List LR) (outs:List (List PV)) (x:Value):zC8 T s [.tmp r] ins outs x = (zrs s.rw 0 ins outs∧s.sl r = .v x):=(rfl)
theorem zp2 (ins:List LR) (outs:List (List PV)) (x:Value):zC8 T s [] ins outs x = (zrs s.rw 0 ins outs∧x = .tuple #[]):=(rfl)
theorem zye (rw:Nat→Row) (e sz:Nat) (a c:List PV):zrs rw 0 [⟨e,sz,a⟩] [c] = (rw 1000000 = ⟨1,.sli e sz false c⟩):=by
 show (rw 1000000 = ⟨1,.sli e sz false c⟩∧True) = _
 rw [and_true]
theorem zyf (rw:Nat→Row) (e sz e' sz':Nat) (a c a' c':List PV):zrs rw 0 [⟨e,sz,a⟩,⟨e',sz',a'⟩] [c,c'] = (rw 1000000 = ⟨1,.sli e sz false c⟩∧rw 1000001 = ⟨1,.sli e' sz' false c'⟩):=by
 show (rw 1000000 = ⟨1,.sli e sz false c⟩∧rw 1000001 = ⟨1,.sli e' sz' false c'⟩∧True) = _
 rw [and_true]
theorem znt (j v e sz:Nat) (a c:List PV):s.wrote [(j,v)] [⟨e,sz,a⟩] [c] = s.row j ⟨v,.sli e sz false c⟩:=by
 unfold St.wrote St.row zdG
 congr 1
 funext k
 by_cases h:k = j
 ·subst h;simp
 ·have:(j == k) = false:=by simp;exact fun e=>h e.symm
  simp [h,this]
theorem znu [zah] (j v e sz j' v' e' sz':Nat) (a c a' c':List PV) (hj:j ≠ j'):s.wrote [(j,v),(j',v')] [⟨e,sz,a⟩,⟨e',sz',a'⟩] [c,c'] = (s.row j ⟨v,.sli e sz false c⟩).row j' ⟨v',.sli e' sz' false c'⟩:=by
 have hn:([(j,v),(j',v')].map (·.1)).Nodup:=by simpa using hj
 unfold St.wrote St.row
 congr 1
 funext k
 show zdG s.rw [(j,v),(j',v')] [⟨e,sz,a⟩,⟨e',sz',a'⟩] [c,c'] k = if k = j' then ⟨v',.sli e' sz' false c'⟩ else if k = j then ⟨v,.sli e sz false c⟩ else s.rw k
 by_cases h:k = j'
 ·subst h
  rw [if_pos rfl]
  exact zkx hn (i:=1) (j:=(k,v')) (r:=⟨e',sz',a'⟩) (c:=c') rfl rfl rfl
 ·rw [if_neg h]
  by_cases h':k = j
  ·subst h'
   rw [if_pos rfl]
   exact zkx hn (i:=0) (j:=(k,v)) (r:=⟨e,sz,a⟩) (c:=c) rfl rfl rfl
  ·rw [if_neg h']
   exact zmN (by simp [h,h'])
theorem AG.go [zah] {f:FuncId} {fn:Func} {c:Code} {rs:List ResultVar} {args:List PV} {R0:Nat→Row} {post:(Nat→Row)→PV→Prop} (hT:T.Ok P) (hm:P.follows .mixedOrders = true) (hf:P.funcs[f]? = some fn) (hname:(fn.name == "runtime.NumGoroutine") = false)
 (hb:fn.body = some c) (hr:fn.results.toList = rs) (hfit:(fits fn.ntmps c && decide (args.length ≤ fn.ntmps) && decide (fn.results.toList.length ≤ 4)) = true)
 (h:zAw args→(∀ k,zmF (R0 k).kind)→∀ s:St,(∀ i,s.sl i = args.getD i .junk)→(∀ k,s.rw k = R0 k)→cwp P T c (zCt T rs post) s):AG P f args R0 post:=by
 subst hr
 refine ⟨⟨fn,hf,hname,by rw [hb];rfl⟩,fun w M E vals hw hR hv=>?_⟩
 exact (AG.of hT hm hf hname hb hfit (fun hl=>h (zyd hv) hl _ (fun _=>rfl) (fun _=>rfl))).2 w M E vals hw hR hv
theorem zui (rs:List ResultVar) (post:(Nat→Row)→PV→Prop):zCt T rs post .ret s = zyi T s rs post:=(rfl)
theorem zp3 (rs:List ResultVar) (post:(Nat→Row)→PV→Prop):zCt T rs post .norm s = zyi T s rs post:=(rfl)
theorem zuj (r:Nat) (post:(Nat→Row)→PV→Prop):zyi T s [.tmp r] post = post s.rw (s.sl r):=(rfl)
theorem zp4 (post:(Nat→Row)→PV→Prop):zyi T s [] post = post s.rw (.tup []):=(rfl)
theorem zp5 (a:Nat) (t:TypeId) (post:(Nat→Row)→PV→Prop):zyi T s [.cell a t] post = zre s.rw (s.sl a) (kk fun m c off=>ldK T t m c off (kk fun p=>post s.rw p)):=(rfl)
theorem zuk (r r2:Nat) (post:(Nat→Row)→PV→Prop):zyi T s [.tmp r,.tmp r2] post = post s.rw (.tup [s.sl r,s.sl r2]):=(rfl)
theorem zap {n:Int} (h:-9223372036854775808 ≤ n) (h2:n ≤ 9223372036854775807):IntKind.i64.wrap n = n:=by
 simp [IntKind.wrap,IntKind.bits,IntKind.signed]
 omega
section
variable {Kp:PV→Prop}
theorem zgJ [zah] (k:Nat) (p:List Nat) {t:TypeId} (o:Nat) (h0:(T t).k.agg = false) (h1:0 < (T t).size):ldK T t .asis (zay k p) o Kp = (o < p.length∧Kp (.own (sid k (p.getD o 0)) 1)):=by
 have:=zeN (T:=T) (Kp:=Kp) (fun j=>PV.own (sid k j) 1) 0 p (t:=t) (m:=.asis) o (fun j=>.own (sid k j) 1) (fun _=>rfl) h0 h1
 exact this
theorem zGp (k:Nat) (p:List Nat) (i j:Nat):spl (zay k p) i [.own (sid k j) 1] = zay k (p.set i j):=by
 show (zay k p).set i (.own (sid k j) 1) = _
 unfold zay;rw [List.map_set]
theorem zAA (k:Nat) (p:List Nat) (j:Nat):zay k p ++ [.own (sid k j) 1] = zay k (p ++ [j]):=by simp [zay]
theorem zgK (k v e e2:Nat) (p:List Nat) (rows:List (List PV)):(s.tabbed k v e e2 p rows).sl = s.sl:=(rfl)
theorem zff [zah] (k v e e2:Nat) (p:List Nat) (rows:List (List PV)):(s.tabbed k v e e2 p rows).rw k = ⟨v,.tab e (zay k p)⟩:=zgT
theorem zgL [zah] (k v e e2:Nat) (p:List Nat) (rows:List (List PV)) (j:Nat) (h:(j % 1000 == k % 1000) = false):(s.tabbed k v e e2 p rows).rw j = s.rw j:=by
 have h:=beq_eq_false_iff_ne.1 h
 refine zhz (fun e=>h (by rw [e])) fun x _ e=>h ?_
 rw [e,zbt];omega
theorem zp6 (k v:Nat) (dst:Option Nat):TR.self.next s k v dst K = K (s.put dst (.own k v)):=(rfl)
theorem zmD (k v:Nat) (dst:Option Nat) (x:Value):(TR.selfx x).next s k v dst K = K (s.put dst (.tup [.own k v,.v x])):=(rfl)
theorem zyg (k v d:Nat) (r:RV):(TR.rv r).next s k v (some d) K = (d % 1000 ≠ k % 1000∧K (zal s d r)):=(rfl)
theorem zp7 (k v:Nat) (r:RV):(TR.rv r).next s k v none K = K s:=(rfl)
theorem zjc (args:List PV) (e e2:Nat) (rows:List (List PV)) (i:Nat):(St.initT args e e2 rows).sl i = args.getD i .junk:=(rfl)
theorem zjd (args:List PV) (e e2:Nat) (rows:List (List PV)) (i:Nat):(St.initT args e e2 rows).rw i = inT e e2 rows i:=(rfl)
theorem znv [zah] (e e2:Nat) (rows:List (List PV)) (k:Nat) (h:k < 1000000):inT e e2 rows k = ⟨0,.dead⟩:=zyC h
theorem zee [zah] (e e2:Nat) (rows:List (List PV)):inT e e2 rows 1000000 = ⟨1,.tab e (zay 1000000 (List.range rows.length))⟩:=zcX
theorem zul (rs:List ResultVar) (e e2 n:Nat) (rows:List (List PV)) (res:TR):zGq T rs e e2 n rows res .ret s = zCu T s rs e e2 n rows res:=(rfl)
theorem zp8 (rs:List ResultVar) (e e2 n:Nat) (rows:List (List PV)) (res:TR):zGq T rs e e2 n rows res .norm s = zCu T s rs e e2 n rows res:=(rfl)
def zum (rw:Nat→Row) (e e2 n:Nat) (rows:List (List PV)):Prop:=∃ q:List Nat,TabIs rw lent 1 e e2 q rows∧q.Perm (List.range n)
theorem zp9 (r e e2 n:Nat) (rows:List (List PV)):zCu T s [.tmp r] e e2 n rows .self = (zum s.rw e e2 n rows∧s.sl r = .own 1000000 1):=(rfl)
theorem zmE (r r2 e e2 n:Nat) (rows:List (List PV)) (x:Value):zCu T s [.tmp r,.tmp r2] e e2 n rows (.selfx x) = (zum s.rw e e2 n rows∧s.sl r = .own 1000000 1∧s.sl r2 = .v x):=(rfl)
theorem zyh (rs:List ResultVar) (e e2 n:Nat) (rows:List (List PV)) (r:RV):zCu T s rs e e2 n rows (.rv r) = (zum s.rw e e2 n rows∧zvq T s rs r):=(rfl)
theorem zgM [zah] (d e e2:Nat) (rows:List (List PV)):(zal s d (.tb e e2 rows)).sl d = .own d ((s.rw d).ver + 1):=by
 unfold zal
 rw [zaG]
 rfl
theorem zef [zah] (d e e2 t:Nat) (rows:List (List PV)) (h:t ≠ d):(zal s d (.tb e e2 rows)).sl t = s.sl t:=by
 unfold zal
 rw [zbg _ _ _ _ h]
theorem zgN [zah] (d e e2 j:Nat) (rows:List (List PV)) (h:(j % 1000 == d % 1000) = false):(zal s d (.tb e e2 rows)).rw j = s.rw j:=by
 have h:=beq_eq_false_iff_ne.1 h
 unfold zal
 rw [zeB]
 show zax s.rw d (leaves (.tb e e2 rows)) 0 j = s.rw j
 rw [zcD]
 refine zch _ _ _ _ _ fun i _ e=>h ?_
 rw [e];unfold zaj;omega
theorem zqa [zah] (d e e2:Nat) (rows:List (List PV)) {i:Nat} (h:i < rows.length):(zal s d (.tb e e2 rows)).rw (sid d i) = ⟨(s.rw (sid d i)).ver + 1,.sli e2 1 false (rows.getD i [])⟩:=by
 have hrw:(zal s d (.tb e e2 rows)).rw = zhA s.rw d (zbl s.rw d (leaves (.tb e e2 rows)) 0) 0:=by
  unfold zal;rw [zeB];exact zcD _ _ _ _
 have hl:(leaves (.tb e e2 rows)).length = rows.length + 1:=by rw [leaves];simp
 have h1:i + 1 < (zbl s.rw d (leaves (.tb e e2 rows)) 0).length:=by rw [za9,hl];omega
 have h2:i + 1 < (leaves (.tb e e2 rows)).length:=by rw [hl];omega
 have:=zdf s.rw d (zbl s.rw d (leaves (.tb e e2 rows)) 0) 0 (i + 1) h1
 rw [Nat.zero_add] at this
 rw [hrw]
 show zhA s.rw d _ 0 (zaj d (i + 1)) = _
 rw [this,zda _ _ _ _ _ h2,Nat.zero_add]
 have h3:(leaves (.tb e e2 rows))[i + 1] = (e2,some 1,rows[i]):=by simp [leaves]
 rw [h3]
 simp [zbD,sid,List.getD,h]
theorem zdX [zah] (d e e2:Nat) (rows:List (List PV)):(zal s d (.tb e e2 rows)).rw d = ⟨(s.rw d).ver + 1,.tab e (zaP s.rw d 0 rows.length)⟩:=by
 have hrw:(zal s d (.tb e e2 rows)).rw = zhA s.rw d (zbl s.rw d (leaves (.tb e e2 rows)) 0) 0:=by
  unfold zal;rw [zeB];exact zcD _ _ _ _
 have hl:(leaves (.tb e e2 rows)).length = rows.length + 1:=by rw [leaves];simp
 have h1:0 < (zbl s.rw d (leaves (.tb e e2 rows)) 0).length:=by rw [za9,hl];omega
 have h2:0 < (leaves (.tb e e2 rows)).length:=by rw [hl];omega
 have:=zdf s.rw d (zbl s.rw d (leaves (.tb e e2 rows)) 0) 0 0 h1
 rw [Nat.zero_add] at this
 rw [hrw]
 have hd:zaj d 0 = d:=by unfold zaj;omega
 have e1:zhA s.rw d (zbl s.rw d (leaves (.tb e e2 rows)) 0) 0 d = zhA s.rw d (zbl s.rw d (leaves (.tb e e2 rows)) 0) 0 (zaj d 0):=by rw [hd]
 rw [e1,this,zda _ _ _ _ _ h2]
 have h3:(leaves (.tb e e2 rows))[0] = (e,none,List.replicate rows.length .junk):=by simp [leaves]
 rw [h3]
 simp [zbD,hd]
theorem zkj [zah] (d j:Nat):zaj d (0 + 1 + j) = sid d j:=by rw [zbt];unfold zaj;omega
theorem zqb [zah] (d e e2:Nat) (rows:List (List PV)) (h:∀ i,i < rows.length→(s.rw (sid d i)).ver = 0):TabIs (zal s d (.tb e e2 rows)).rw d ((s.rw d).ver + 1) e e2 (List.range rows.length) rows:=by
 refine ⟨?_,by simp,fun i hi=>?_⟩
 ·rw [zdX]
  congr 2
  unfold zaP zay
  refine List.map_congr_left fun j hj=>?_
  rw [zkj,h j (List.mem_range.1 hj)]
 ·have hi':i < rows.length:=by simpa using hi
  have:(List.range rows.length).getD i 0 = i:=by simp [List.getD,hi']
  rw [this,zqa d e e2 rows hi',h i hi']
theorem zrr [zah] (d e e2:Nat) (rows:List (List PV)):(zaP s.rw d 0 rows.length).map (zls (zal s d (.tb e e2 rows)).rw) = rows.map fun r=>.sl false 1 r:=by
 refine List.ext_getElem (by simp [zaP]) fun i a b=>?_
 have hi:i < rows.length:=by simpa using b
 have h2:rows.getD i [] = rows[i]:=by simp [List.getD,hi]
 rw [List.getElem_map,List.getElem_map]
 simp only [zaP,List.getElem_map,List.getElem_range]
 rw [zkj]
 simp only [zls,zqa d e e2 rows hi,if_true,h2]
end
theorem zgO (k:Nat) (p:List Nat):(s.killed k p).sl = s.sl:=(rfl)
theorem zgP [zah] (k:Nat) (p:List Nat) (j:Nat) (h:(j % 1000 == k % 1000) = false):(s.killed k p).rw j = s.rw j:=by
 have h:=beq_eq_false_iff_ne.1 h
 refine zb9 fun hj=>h ?_
 rcases hj with rfl | ⟨x,_,rfl⟩
 ·rfl
 ·exact zaa _ _
theorem zkk [zah] {rw0:Nat→Row} (d e e2:Nat) (rows:List (List PV)) (h:∀ i,s.rw (sid d i) = rw0 (sid d i)):(zaP rw0 d 0 rows.length).map (zls (zal s d (.tb e e2 rows)).rw) = rows.map fun r=>.sl false 1 r:=by
 have:zaP rw0 d 0 rows.length = zaP s.rw d 0 rows.length:=by
  unfold zaP
  refine List.map_congr_left fun j _=>?_
  rw [zkj,h j]
 rw [this,zrr]
theorem zCs (M:List (List Int)):(M.map iL).map (fun r=>PV.sl false 1 r) = iLL M:=by
 unfold iLL
 rw [List.map_map];rfl
def ziD [zah] {α:Type} (I:α→St→Prop) (μ:α→Nat) (m:Nat) (s2:St):Prop:=∃ x' s3,Wk s2 s3∧I x' s3∧μ x' < m
theorem zag [zah] {α:Type} {I:α→St→Prop} {μ:α→Nat} {m:Nat} (x':α) (h:I x' s) (hm:μ x' < m):ziD I μ m s:=⟨x',s,Wk.refl s,h,hm⟩
theorem zan [zah] {α:Type} (I:α→St→Prop) (μ:α→Nat) (x0:α) {b:(AX→St→Prop)→St→Prop} {u:Dm b} {v:Dm Q} (h0:I x0 s) (h:∀ x s1,I x s1→b (AX.seq (ziD I μ (μ x)) Q) s1):zqf (kk b u) (kk Q v) s :=
 ⟨α,I,μ,⟨x0,s,Wk.refl s,h0⟩,h⟩
end
end Go.Abs
